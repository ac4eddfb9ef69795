/- The declarations of TB that the claim Qe needs. -/
import Derived.Test.YtdldfdcedjmneaaQeTA
import Derived.Test.YtdldfdcedjmneaaQePbx0
import Derived.Test.YtdldfdcedjmneaaQePbx1
import Derived.Test.YtdldfdcedjmneaaQePbx2
import Derived.Test.YtdldfdcedjmneaaQePbx3
import Derived.Test.YtdldfdcedjmneaaQePbx4
import Derived.Test.YtdldfdcedjmneaaQeTkP
import Derived.Test.YtdldfdcedjmneaaQePbx6
import Derived.Test.YtdldfdcedjmneaaQePbx7
import Derived.Laws.EntriesVeiled
namespace Go.Proofs.Ytdldfdcedjmneaa.Own
open Go.RowKit Go.Proofs.YtdldfdcedjmneaaW.PrintWords Go.Proofs.YtdldfdcedjmneaaW.PrintLast Go.Proofs.YtdldfdcedjmneaaW.PrintMore Go.Proofs.Ytdldfdcedjmneaa.Pb Go.Proofs.Ytdldfdcedjmneaa.Br
set_option linter.unusedVariables false
set_option linter.unusedSimpArgs false
theorem ret_two {b c : Bool} {i j : Int} (h : b = c) (k : i = j) : Ending.returned (.tuple #[.bool b, .int .i64 i]) = .returned (.tuple #[.bool c, .int .i64 j]) := by rw [h, k]
theorem norm_eq_dec {n : Nat} (hn1 : 2 ≤ n) {l1 l2 : List Int} (h1 : Word n l1) (h2 : Word n l2) {p1 p2 : Int} {P1 P2 : List Pm} (k1 : NormR n l1 p1 P1) (k2 : NormR n l2 p2 P2) :
    (normL n l1 = normL n l2) = (p1 = p2 ∧ P1.map (lst n) = P2.map (lst n)) := by
  rw [normL_eq hn1 h1 k1.nf, normL_eq hn1 h2 k2.nf, Prod.mk.injEq]
set_option maxRecDepth 100000 in
set_option maxHeartbeats 8000000 in
theorem f23_any (a0 : Int) (A1 A2 : Option Addr) (c1 c2 : Nat) (l1 l2 : List Int) (w : World) (hr1 : Kd.C (Kd.int .i64) w A1 l1.length l1) (hc1 : l1.length ≤ c1) (hr2 : Kd.C (Kd.int .i64) w A2 l2.length l2) (hc2 : l2.length ≤ c2) (r1 : Bool) (r2 : Int) (hf : strap_Equal.f a0 l1 l2 = some (r1, r2)) :
  Calls Try.prog 23 #[.int .i64 a0, .slice A1 l1.length c1, .slice A2 l2.length c2] w fun e w' => e = .returned (.tuple #[.bool r1, .int .i64 r2]) ∧ Below w.heap.size w w' := by
 unfold strap_Equal.f at hf
 injection hf with hf
 have HF := Aside0.mk hf
 have HR1 := Aside0.mk hr1
 have HR2 := Aside0.mk hr2
 obtain ⟨e1, he1⟩ : ∃ e, checkF a0 l1 = e := ⟨_, rfl⟩
 obtain ⟨e2, he2⟩ : ∃ e, checkF a0 l2 = e := ⟨_, rfl⟩
 have HE1 := Aside0.mk he1
 have HE2 := Aside0.mk he2
 clear hf hr1 hr2 he1 he2
 have HN := Aside0.mk (heap_alloc_new w (.cells #[.slice A1 l1.length c1, .slice A2 l2.length c2] 22))
 go_enter Try.func23, Try.ntmps23
 go_wp2
 go_loopg [17] 3 (fun kq s17 wr => ∃ j : Nat, s17 = .int .i64 j ∧ j ≤ 2 ∧ 3 - j ≤ kq ∧ Aside0 (Below (w.heap.size + 1) (w.alloc (.cells #[.slice A1 l1.length c1, .slice A2 l2.length c2] 22)) wr) ∧ Aside0 (0 < j → e1 = 0) ∧ Aside0 (1 < j → e2 = 0))
 case atStart => exact ⟨0, rfl, by omega, by omega, ⟨Below.refl _ _⟩, ⟨fun h => by omega⟩, ⟨fun h => by omega⟩⟩
 case round =>
  obtain ⟨j, rfl, hj, hgg, HB, HZ1, HZ2⟩ := hrel
  have hblk : wr.heap[w.heap.size]? = some (.cells #[.slice A1 l1.length c1, .slice A2 l2.length c2] 22 (0, 0)) := by rw [HB.out.block _ (by omega)]; exact HN.out
  have hBw : Below w.heap.size w wr := (below_alloc (Below.refl _ _) _).trans (HB.out.mono (by omega))
  have hC1 := Kd.C_below HR1.out hBw
  have hC2 := Kd.C_below HR2.out hBw
  have HBW := Aside0.mk hBw
  have HSZ : Aside0 (w.heap.size + 1 ≤ wr.heap.size) := ⟨by have h := HB.out.size; rw [size_alloc] at h; exact h⟩
  have m0 : wr.cell? ⟨w.heap.size, 0, none⟩ = some (.slice A1 l1.length c1) := by simp only [World.cell?, hblk]; rfl
  have m1 : wr.cell? ⟨w.heap.size, 1, none⟩ = some (.slice A2 l2.length c2) := by simp only [World.cell?, hblk]; rfl
  obtain rfl | rfl | rfl : j = 0 ∨ j = 1 ∨ j = 2 := by omega
  ·have h52 := f52_any a0 A1 c1 l1.length l1 wr hC1 hc1
   rw [HE1.out] at h52
   clear hblk hBw hC1 hC2
   by_cases hz : e1 = 0
   ·rw [hz] at h52
    have HZ := Aside0.mk hz
    clear hz
    go_wp2_with (go_at_call 52; (with_reducible refine h52.mono ?_); rintro e w' ⟨rfl, hb⟩)
    go_roundg 2
    case measure => omega
    case rel => exact ⟨1, rfl, by omega, by omega, ⟨HB.out.trans (hb.mono HSZ.out)⟩, ⟨fun _ => HZ.out⟩, ⟨fun h => by omega⟩⟩
   ·have hz2 : (e1 != 0) = true := by simpa using hz
    have HZ := Aside0.mk hz
    clear hz
    go_wp2_with (go_at_call 52; (with_reducible refine h52.mono ?_); rintro e w' ⟨rfl, hb⟩)
    go_ret2
    have h := HF.out
    rw [HE1.out, if_pos HZ.out] at h
    injection h with h3 h4
    exact ⟨ret_two h3 h4, below_step HBW.out hb⟩
  ·have h52 := f52_any a0 A2 c2 l2.length l2 wr hC2 hc2
   rw [HE2.out] at h52
   clear hblk hBw hC1 hC2
   by_cases hz : e2 = 0
   ·rw [hz] at h52
    have HZ := Aside0.mk hz
    clear hz
    go_wp2_with (go_at_call 52; (with_reducible refine h52.mono ?_); rintro e w' ⟨rfl, hb⟩)
    go_roundg 1
    case measure => omega
    case rel => exact ⟨2, rfl, by omega, by omega, ⟨HB.out.trans (hb.mono HSZ.out)⟩, ⟨fun _ => HZ1.out (by omega)⟩, ⟨fun _ => HZ.out⟩⟩
   ·have hz2 : (e2 != 0) = true := by simpa using hz
    have HZ := Aside0.mk hz
    clear hz
    go_wp2_with (go_at_call 52; (with_reducible refine h52.mono ?_); rintro e w' ⟨rfl, hb⟩)
    go_ret2
    have h := HF.out
    rw [HE1.out, HE2.out, if_neg (fun h2 => h2 (HZ1.out (by omega))), if_pos HZ.out] at h
    injection h with h3 h4
    exact ⟨ret_two h3 h4, below_step HBW.out hb⟩
  ·have hz1 := HZ1.out (by omega)
   have hz2 := HZ2.out (by omega)
   obtain ⟨n, rfl, hn1, hn8, hw1, hl1⟩ := checkF_zero (HE1.out.trans hz1)
   obtain ⟨n', hnn, _, _, hw2, hl2⟩ := checkF_zero (HE2.out.trans hz2)
   have hnn2 : n' = n := by omega
   subst hnn2
   have h := HF.out
   rw [HE1.out, HE2.out, if_neg (fun h2 => h2 hz1), if_neg (fun h2 => h2 hz2), Int.toNat_natCast] at h
   injection h with h3 h4
   have H3 := Aside0.mk h3
   have H4 := Aside0.mk h4
   have HW1 := Aside0.mk hw1
   have HW2 := Aside0.mk hw2
   have h53 := f53_any n' A1 c1 l1 wr hC1 hn1 (by omega) (by omega) hw1
   have HC2 := Aside0.mk hC2
   clear hblk hBw hC1 hC2 hz1 hz2 h3 h4 hw1 hw2 hnn m0 m1
   go_upto_region 9 with (first | (go_at_call 53; (with_reducible refine h53.mono ?_); rintro e w5 ⟨rfl, p1, v1, hs1, P1, hB1, hN1⟩; have HB1 := Aside0.mk hB1; have HN1 := Aside0.mk hN1; have h53b := f53_any n' A2 c2 l2 w5 (Kd.C_below HC2.out hB1.bel) hn1 (by omega) (by omega) HW2.out; clear h53 hB1 hN1) | (go_at_call 53; (with_reducible refine h53b.mono ?_); rintro e w6 ⟨rfl, p2, v2, hs2, P2, hB2, hN2⟩; have HB2 := Aside0.mk hB2; have HN2 := Aside0.mk hN2; clear hB2 hN2))
   clear h53b
   have hBx := HB1.out.below HB2.out.bel
   have HBX := Aside0.mk hBx
   have a1 := hBx.c1
   have a2 := hBx.c2
   have b1 := HB2.out.c1
   have b2 := HB2.out.c2
   obtain ⟨g1, hg1⟩ : ∃ g, wr.heap.size = g := ⟨_, rfl⟩
   obtain ⟨g2, hg2⟩ : ∃ g, w5.heap.size = g := ⟨_, rfl⟩
   rw [hg1] at a1 a2 ⊢
   rw [hg2] at b1 b2 ⊢
   have HG1 := Aside0.mk hg1
   have HG2 := Aside0.mk hg2
   clear hBx hg1 hg2
   have HDC := Aside0.mk (norm_eq_dec hn1 HW1.out HW2.out HN1.out HN2.out)
   have h59 : ∀ n, Calls Try.prog 59 #[v1, v2, .func (.func 60) #[] #[]] (w6.drewN n) fun e w'' => e = .returned (.bool (decide (P1.map (lst n') = P2.map (lst n')))) ∧ ∃ m, w'' = (w6.drewN n).drewN m := fun n => (f59_any (w6.drewN n) (HBX.out.fac.below (pw_below_drewN (Below.refl _ _) n)) (HB2.out.fac.below (pw_below_drewN (Below.refl _ _) n)) (by omega)).mono (fun e w2 ⟨h1, ⟨k, h2⟩⟩ => ⟨h1, k, h2⟩)
   have H59 := Aside0.mk h59
   clear h59
   by_cases hp : p1 = p2
   ·subst hp
    have hpt : (p1 == p1) = true := by simp
    go_quiet ((go_at_call 59; exact Calls.quiet_of (H59.out _)))
    go_wp2
    go_ret2
    have hb : Below w.heap.size w w6 := below_step (below_step HBW.out HB1.out.bel) HB2.out.bel
    exact ⟨ret_two (by rw [← H3.out]; exact decide_eq_decide.2 (by rw [HDC.out]; simp)) H4.out, pw_below_drewN hb _⟩
   ·have hpb : (p1 == p2) = false := by simpa using hp
    have HP := Aside0.mk hp
    clear hp
    go_quiet (fail)
    go_wp2
    go_ret2
    have hb : Below w.heap.size w w6 := below_step (below_step HBW.out HB1.out.bel) HB2.out.bel
    exact ⟨ret_two (by rw [← H3.out]; exact (decide_eq_false (by rw [HDC.out]; exact fun e => HP.out e.1)).symm) H4.out, pw_below_drewN hb _⟩
end Go.Proofs.Ytdldfdcedjmneaa.Own
namespace Go.Proofs.Ytdldfdcedjmneaa.Own
open Go.RowKit Go.Proofs.YtdldfdcedjmneaaW.PrintWords Go.Proofs.YtdldfdcedjmneaaW.PrintLast Go.Proofs.YtdldfdcedjmneaaW.PrintMore Go.Proofs.Ytdldfdcedjmneaa.Pb Go.Proofs.Ytdldfdcedjmneaa.Br
set_option linter.unusedVariables false
set_option linter.unusedSimpArgs false
noncomputable def strap_Normal.f (a0 : Int) (l1 : List Int) : Option (Int × List (List Int) × Int) :=
  some (if checkF a0 l1 ≠ 0 then (0, [], checkF a0 l1) else ((normL a0.toNat l1).1, (normL a0.toNat l1).2, 0))
/-- A row of headers, and the rows, as a made row of rows. -/
theorem S_of_hd {B n : Nat} {w : World} {v : Value} {hs : List (Nat × Nat)} {L : List (List Int)} (ht : (hd n).R 22 w B (fun _ => True) v hs) (hl : hs.length = L.length) (hr : ∀ i (h : i < hs.length), Kd.R (Kd.int .i64) 3 w B (fun k => k = hs[i].1) (encH n hs[i]) (L.getD i [])) (hnd : (hs.map (·.1)).Nodup) (hn : 0 < n) :
  Kd.S (Kd.slice 3 (Kd.int .i64)) 22 w B (fun _ => True) v L := by
 refine ⟨fun k => (hs.map (·.1)).idxOf k, fun _ _ => trivial, encs (encH n) hs, ?_, ?_⟩
 ·have h := Kd.own_of_R ht
  rw [List.length_zipIdx, ← hl]
  exact h
 ·refine ⟨by rw [List.length_zipIdx, ← hl]; simp [encs]; exact (Nat.mul_one _).symm, fun j p hj => ?_⟩
  have hjl : j < L.length := by have := (List.getElem?_eq_some_iff.1 hj).1; rwa [List.length_zipIdx] at this
  have hjh : j < hs.length := by omega
  have hp : p = (L[j], j) := by
   have := Kd.zip_at (xs := L) (j := j) (List.getElem?_eq_getElem hjl)
   rw [this] at hj
   exact (Option.some.inj hj).symm
  subst hp
  have hrow := hr j hjh
  have hg : L.getD j [] = L[j] := by rw [List.getD_eq_getElem?_getD, List.getElem?_eq_getElem hjl]; rfl
  rw [hg] at hrow
  have hne : some hs[j].1 ≠ v.ownBlock := by
   obtain ⟨cells, hc⟩ := R_blk hrow
   exact Kd.R_ne ht hc (by decide)
  have hix : (hs.map (·.1)).idxOf hs[j].1 = j := by
   have h1 : (hs.map (·.1))[j]'(by simpa using hjh) = hs[j].1 := by rw [List.getElem_map]
   rw [← h1]
   exact hnd.idxOf_getElem j (by simpa using hjh)
  have hcs : ((encs (encH n) hs).drop (j * 1)).take 1 = [encH n hs[j]] := by
   rw [Nat.mul_one, List.drop_eq_getElem_cons (by simp [encs]; exact hjh)]
   simp [encs]
  show (Kd.slice 3 (Kd.int .i64)).M w B _ L[j] (((encs (encH n) hs).drop (j * 1)).take 1)
  rw [hcs]
  exact ⟨_, rfl, Kd.R_mono hrow (fun k hk => by subst hk; exact ⟨⟨trivial, hne⟩, hix⟩)⟩
/-- Between two rounds of Normal: the braid, and what is handed back so far. -/
structure NorS (wB wr : World) (n g g4 g8 : Nat) (p : Int) (v v8 : Value) (hs : List (Nat × Nat)) (Ps : List Pm) (i : Nat) : Prop where
  brd : Brd wB g n wr p v hs Ps
  out : (hd n).R 22 wr wB.heap.size (fun _ => True) v8 (hs.take i)
  c8 : wr.heap[g8]? = some (.cells #[.int .i64 p, v8] 26 (0, 0))
  c4 : wr.heap[g4]? = some (.cells #[.int .i64 0, .slice none 0 0] 26 (0, 0))
  n8 : wB.heap.size ≤ g8
  ne : g4 ≠ g8
section
variable {wB wr w1 : World} {n g g4 g8 : Nat} {p : Int} {v v8 v1 : Value} {hs : List (Nat × Nat)} {Ps : List Pm} {i : Nat}
theorem NorS.app (h : NorS wB wr n g g4 g8 p v v8 hs Ps i) (hi : i < hs.length) (ho : (hd n).R 22 w1 wB.heap.size (fun _ => True) v1 (hs.take i ++ [hs[i]])) (hb : Below wB.heap.size wB w1) (hg : wr.grownBy w1 v8.ownBlock) :
  NorS wB (w1.setCell ⟨g8, 1, none⟩ v1) n g g4 g8 p v v1 hs Ps (i + 1) ∧ w1.cell? ⟨g8, 1, none⟩ = some v8 ∧ w1.frozen? ⟨g8, 1, none⟩ = false := by
 have k8 := blk_grown h.c8 hg (Kd.R_ne h.out h.c8 (by decide))
 have k4 := blk_grown h.c4 hg (Kd.R_ne h.out h.c4 (by decide))
 have hk : Kept wr (w1.setCell ⟨g8, 1, none⟩ v1) (fun k => some k = v8.ownBlock ∨ k = g8) := Kept.setCell (Kept.of_grown hg (Kept.refl _ _) (fun k hk => .inl (.inl hk.symm))) (.inl (.inr rfl)) _
 have hb2 : Below wB.heap.size wB (w1.setCell ⟨g8, 1, none⟩ v1) := below_set hb h.n8
 refine ⟨⟨h.brd.kept hk (fun e => ?_) (fun k hk1 e => ?_) (fun k hk1 j hj e => ?_) hb2, ?_, blk_set k8 1 v1, blk_far k4 h.ne v1, h.n8, h.ne⟩, (blk_cell k8 1).trans rfl, blk_frozen k8 1⟩
 ·rcases e with e | e
  ·exact Kd.R_ne h.out h.brd.blk (by decide) e
  ·exact blk_ne h.brd.blk h.c8 (by decide) e
 ·rcases hk1 with hk1 | hk1
  ·have hlt : 0 < (hs.take i).length ∨ (hs.take i).length = 0 := by omega
   obtain ⟨b1, hq⟩ : ∃ cells, wr.heap[k]? = some (.cells cells 22 (0, 0)) := by
    obtain ⟨inner, how⟩ := Kd.R_own h.out
    exact own_typed how k hk1.symm
   exact Kd.Q_ne h.brd.fac.top hq (by decide) e.symm
  ·rw [hk1] at e
   exact Kd.Q_ne h.brd.fac.top h.c8 (by decide) e.symm
 ·obtain ⟨cells, hc⟩ := R_blk (h.brd.fac.row j hj)
  rcases hk1 with hk1 | hk1
  ·rw [e] at hc
   exact Kd.R_ne h.out hc (by decide) hk1
  ·rw [e, hk1] at hc
   exact blk_ne hc h.c8 (by decide) rfl
 ·rw [List.take_succ_eq_append_getElem hi]
  exact Kd.R_set ho k8 (fun q hq => by have : q = 22 := (by simpa [hd, Kd.scalar] using hq); omega) 1 v1
end
set_option maxRecDepth 100000 in
set_option maxHeartbeats 8000000 in
theorem strap_Normal.calls (a0 : Int) (A1 : Option Addr) (c1 : Nat) (l1 : List Int) (r1 : Int) (r2 : List (List Int)) (r3 : Int) (w : World) (hr1 : Kd.C (Kd.int .i64) w A1 l1.length l1) (hc1 : l1.length ≤ c1) (hf : strap_Normal.f a0 l1 = some (r1, r2, r3)) :
  Calls Try.prog 17 #[.int .i64 a0, .slice A1 l1.length c1] w fun e w' => ∃ v0_ : Value, e = .returned (.tuple #[.agg #[.int .i64 r1, v0_], .int .i64 r3]) ∧ Kd.S (Kd.slice 3 (Kd.int .i64)) 22 w' w.heap.size (fun _ => True) v0_ r2 ∧ Below w.heap.size w w' := by
 unfold strap_Normal.f at hf
 injection hf with hf
 have hC1 := Kd.C_below (w1 := w.alloc (.cells #[.int .i64 0, .slice none 0 0] 26)) hr1 (below_alloc (Below.refl _ _) _)
 have h52 := f52_any a0 A1 c1 l1.length l1 _ hC1 hc1
 obtain ⟨e1, he1⟩ : ∃ e, checkF a0 l1 = e := ⟨_, rfl⟩
 rw [he1] at h52 hf
 by_cases hz : e1 ≠ 0
 ·rw [if_pos hz] at hf
  injection hf with hf1 hf
  injection hf with hf2 hf3
  subst hf1 hf2 hf3
  have hzb : (e1 != 0) = true := by simpa using hz
  clear hz he1 hC1 hr1
  go_enter Try.func17, Try.ntmps17
  go_wp2_with (go_at_call 52; (with_reducible refine h52.mono ?_); rintro e w5 ⟨rfl, hb5⟩; have HB5 := Aside0.mk hb5; have x4 := blk_below (heap_alloc_new w (.cells #[.int .i64 0, .slice none 0 0] 26)) hb5; obtain ⟨y1, y2⟩ : w5.cell? ⟨w.heap.size, 0, none⟩ = some (.int .i64 0) ∧ w5.cell? ⟨w.heap.size, 1, none⟩ = some (.slice none 0 0) := ⟨(blk_cell x4 0).trans rfl, (blk_cell x4 1).trans rfl⟩; have y3 := blk_frozen x4 0; have y4 := blk_frozen x4 1; have X4 := Aside0.mk x4; clear hb5 x4)
  have k0 := blk_set X4.out 0 (.int .i64 0)
  have k1 := blk_set k0 1 (.slice none 0 0)
  have z1 : ((w5.setCell ⟨w.heap.size, 0, none⟩ (.int .i64 0)).setCell ⟨w.heap.size, 1, none⟩ (.slice none 0 0)).cell? ⟨w.heap.size, 0, none⟩ = some (.int .i64 0) := (blk_cell k1 0).trans rfl
  have z2 : ((w5.setCell ⟨w.heap.size, 0, none⟩ (.int .i64 0)).setCell ⟨w.heap.size, 1, none⟩ (.slice none 0 0)).cell? ⟨w.heap.size, 1, none⟩ = some (.slice none 0 0) := (blk_cell k1 1).trans rfl
  have hbF : Below w.heap.size w ((w5.setCell ⟨w.heap.size, 0, none⟩ (.int .i64 0)).setCell ⟨w.heap.size, 1, none⟩ (.slice none 0 0)) := below_set (below_set (below_step (below_alloc (Below.refl _ _) _) HB5.out) (Nat.le_refl _)) (Nat.le_refl _)
  generalize (w5.setCell ⟨w.heap.size, 0, none⟩ (.int .i64 0)).setCell ⟨w.heap.size, 1, none⟩ (.slice none 0 0) = F at *
  clear k0 k1
  refine bodyPost_ret (v := .tuple #[.agg #[.int .i64 0, .slice none 0 0], .int .i64 e1]) (by simp [results, Try.results17, go_sem, z1, z2]) rfl ⟨_, rfl, Kd.S_nil _ _ _ _ _, hbF⟩
 ·have hz0 : e1 = 0 := by omega
  rw [if_neg hz] at hf
  obtain ⟨n, rfl, hn1, hn8, hw1, hl1⟩ := checkF_zero (he1.trans hz0)
  rw [Int.toNat_natCast] at hf
  injection hf with hf1 hf
  injection hf with hf2 hf3
  subst hf3
  rw [hz0] at h52
  have HF1 := Aside0.mk hf1
  have HF2 := Aside0.mk hf2
  have HR1 := Aside0.mk hr1
  have HW1 := Aside0.mk hw1
  clear hz he1 hC1 hr1 hz0 hf1 hf2 hw1
  go_enter Try.func17, Try.ntmps17
  go_upto_block 0 with (first | (go_at_call 52; (with_reducible refine h52.mono ?_); rintro e w5 ⟨rfl, hb5⟩; have HB5 := Aside0.mk hb5; have h53 := f53_any n A1 c1 l1 w5 (Kd.C_below HR1.out (below_step (below_alloc (Below.refl _ _) _) hb5)) hn1 (by omega) (by omega) HW1.out; have X4 := Aside0.mk (blk_below (heap_alloc_new w (.cells #[.int .i64 0, .slice none 0 0] 26)) hb5); clear hb5) | (go_at_call 53; (with_reducible refine h53.mono ?_); rintro e w6 ⟨rfl, p, v, hs, Ps, hB, hN⟩; obtain ⟨Av, cv, rfl, hlc⟩ := Kd.Q_slice hB.fac.top; have HB := Aside0.mk hB; have HN := Aside0.mk hN; have q1 := hB.c1; have q2 := hB.c2; have q3 := (hB.below (w' := w6.alloc (.cells #[.int .i64 p, .slice none 0 0] 26)) (below_alloc (Below.refl _ _) _)).c2; clear hB hN))
  have HEQ : Aside0 (normL n l1 = (p, Ps.map (lst n))) := ⟨normL_eq hn1 HW1.out HN.out.nf⟩
  have HBW : Aside0 (Below w.heap.size w w5) := ⟨below_step (below_alloc (Below.refl _ _) _) HB5.out⟩
  have HPL : Aside0 (hs.length ≤ 1000) := ⟨by have h1 := HN.out.hi; have h2 := HN.out.lo; have h3 := HB.out.len; omega⟩
  have HS0 : Aside0 (NorS w5 (w6.alloc (.cells #[.int .i64 p, .slice none 0 0] 26)) n w5.heap.size w.heap.size w6.heap.size p (.slice Av hs.length cv) (.slice none 0 0) hs Ps 0) := ⟨⟨HB.out.below (below_alloc (Below.refl _ _) _), Kd.R_nil _ _ _ _ _, heap_alloc_new _ _, blk_alloc (blk_below X4.out HB.out.bel) _, HB.out.bel.size, fun e => by have h1 := blk_lt (blk_below X4.out HB.out.bel); omega⟩⟩
  clear q1 q2 q3 h53
  have HW5 := Aside0.mk (Nat.le_refl w5.heap.size)
  obtain ⟨g5, hg5⟩ : ∃ g, w5.heap.size = g := ⟨_, rfl⟩
  obtain ⟨g6, hg6⟩ : ∃ g, w6.heap.size = g := ⟨_, rfl⟩
  rw [hg6] at HS0 ⊢
  generalize w6.alloc (.cells #[.int .i64 p, .slice none 0 0] 26) = W1 at *
  clear hg6 hg5 HB
  go_wp2
  go_loopg [31] hs.length (fun kq s31 wr => ∃ (i : Nat) (v8 : Value), s31 = .int .i64 i ∧ i ≤ hs.length ∧ hs.length - i ≤ kq ∧ Aside0 (NorS w5 wr n w5.heap.size w.heap.size g6 p (.slice Av hs.length cv) v8 hs Ps i))
  case atStart => exact ⟨0, _, rfl, by omega, by omega, HS0⟩
  case round =>
   clear HS0
   obtain ⟨i, v8, rfl, hi, hgg, HS⟩ := hrel
   have hpl := HPL.out
   by_cases hlt : i < hs.length
   ·have hlt2 : (i : Int) < (hs.length : Int) := by omega
    have hi0 : (0 : Int) ≤ (i : Int) := by omega
    obtain ⟨gA, oA, cA, hvA, _⟩ := Kd.Q_form HS.out.brd.fac.top (by omega)
    injection hvA with hA1 hA2 hA3
    subst hA1; subst hA3
    have hcell := HS.out.brd.fac.cell hlt
    obtain ⟨h0, hh0⟩ : ∃ h, hs[i] = h := ⟨_, rfl⟩
    rw [hh0] at hcell
    unfold encH at hcell
    obtain ⟨y1, y2⟩ : wr.cell? ⟨g6, 0, none⟩ = some (.int .i64 p) ∧ wr.cell? ⟨g6, 1, none⟩ = some v8 := ⟨(blk_cell HS.out.c8 0).trans rfl, (blk_cell HS.out.c8 1).trans rfl⟩
    obtain ⟨A8, c8, hv8⟩ := Kd.R_slice HS.out.out
    have hl8 : (hs.take i).length = i := by rw [List.length_take]; omega
    rw [hl8] at hv8
    subst hv8
    have HH0 := Aside0.mk hh0
    clear hh0 hA2 hl8
    go_wp2_with ((with_reducible refine gate_builtin (b := .append) (xs := #[.tmp 36, .tmp 38]) rfl ?_); at_builtin; refine Kd.R_append (hd n) (w0 := w5) w5.heap.size rfl (.tmp 36) (.tmp 38) 24 22 (.slice none 0 0) 24 rfl Try.underlying24 info22 rfl Nat.one_pos (by omega) (.slice A8 i c8) (hs.take i) h0 [encH n h0] (fun _ => True) (fun _ => False) rfl rfl rfl (fun _ hk => hk.elim) (fun _ _ => trivial) HS.out.out HS.out.brd.bel HS.out.brd.bel.size (by rw [List.length_take]; have := HPL.out; omega) ?_; intro v1 w1 ho hb hg hat; obtain ⟨A9, c9, hv9⟩ := Kd.R_slice ho; have hl9 : (hs.take i ++ [h0]).length = i + 1 := (by rw [List.length_append, List.length_take]; simp; omega); rw [hl9] at hv9; subst hv9; obtain ⟨hN9, hc9, hf9⟩ := HS.out.app hlt (by rw [HH0.out]; exact ho) hb hg; have HN9 := Aside0.mk hN9; clear ho hb hg hat hl9 hN9)
    go_roundg (hs.length - (i + 1))
    case measure => omega
    case rel => exact ⟨i + 1, _, by go_num, by omega, Nat.le_refl _, HN9⟩
   ·have hin : i = hs.length := by omega
    obtain ⟨y1, y2⟩ : wr.cell? ⟨g6, 0, none⟩ = some (.int .i64 p) ∧ wr.cell? ⟨g6, 1, none⟩ = some v8 := ⟨(blk_cell HS.out.c8 0).trans rfl, (blk_cell HS.out.c8 1).trans rfl⟩
    obtain ⟨A8, c8, hv8⟩ := Kd.R_slice HS.out.out
    have hl8 : (hs.take i).length = i := by rw [List.length_take]; omega
    rw [hl8] at hv8
    subst hv8
    obtain ⟨y3, y4⟩ : wr.cell? ⟨w.heap.size, 0, none⟩ = some (.int .i64 0) ∧ wr.cell? ⟨w.heap.size, 1, none⟩ = some (.slice none 0 0) := ⟨(blk_cell HS.out.c4 0).trans rfl, (blk_cell HS.out.c4 1).trans rfl⟩
    have y5 := blk_frozen HS.out.c4 0
    have y6 := blk_frozen HS.out.c4 1
    have HIN := Aside0.mk hin
    clear hl8 hin
    go_wp2
    have hF1 := HF1.out
    have hF2 := HF2.out
    rw [HEQ.out] at hF1 hF2
    dsimp only at hF1 hF2
    subst hF1 hF2
    have k0 := blk_set HS.out.c4 0 (.int .i64 p)
    have k1 := blk_set k0 1 (.slice A8 i c8)
    have z1 : ((wr.setCell ⟨w.heap.size, 0, none⟩ (.int .i64 p)).setCell ⟨w.heap.size, 1, none⟩ (.slice A8 i c8)).cell? ⟨w.heap.size, 0, none⟩ = some (.int .i64 p) := (blk_cell k1 0).trans rfl
    have z2 : ((wr.setCell ⟨w.heap.size, 0, none⟩ (.int .i64 p)).setCell ⟨w.heap.size, 1, none⟩ (.slice A8 i c8)).cell? ⟨w.heap.size, 1, none⟩ = some (.slice A8 i c8) := (blk_cell k1 1).trans rfl
    have hbF : Below w.heap.size w ((wr.setCell ⟨w.heap.size, 0, none⟩ (.int .i64 p)).setCell ⟨w.heap.size, 1, none⟩ (.slice A8 i c8)) := below_set (below_set (below_step HBW.out HS.out.brd.bel) (Nat.le_refl _)) (Nat.le_refl _)
    have hSF : Kd.S (Kd.slice 3 (Kd.int .i64)) 22 ((wr.setCell ⟨w.heap.size, 0, none⟩ (.int .i64 p)).setCell ⟨w.heap.size, 1, none⟩ (.slice A8 i c8)) w.heap.size (fun _ => True) (.slice A8 i c8) (Ps.map (lst n)) := by
     have ho := HS.out.out
     rw [HIN.out, List.take_length] at ho
     have hS1 := S_of_hd ho HS.out.brd.fac.len HS.out.brd.fac.row HS.out.brd.fac.nd (by omega)
     rw [HIN.out]
     have hty : ∀ q, q ∈ 22 :: (Kd.slice 3 (Kd.int .i64)).E → q ≠ 26 := fun q hq => by
      have : q = 22 ∨ q = 3 := (by simpa [Kd.slice, Kd.int, Kd.scalar] using hq)
      omega
     exact Kd.S_lower (Kd.S_set (Kd.S_set hS1 HS.out.c4 hty 0 _) k0 hty 1 _) HBW.out.size
    generalize (wr.setCell ⟨w.heap.size, 0, none⟩ (.int .i64 p)).setCell ⟨w.heap.size, 1, none⟩ (.slice A8 i c8) = F at *
    clear k0 k1
    refine bodyPost_ret (v := .tuple #[.agg #[.int .i64 p, .slice A8 i c8], .int .i64 0]) (by simp [results, Try.results17, go_sem, z1, z2]) rfl ⟨_, rfl, hSF, hbF⟩
end Go.Proofs.Ytdldfdcedjmneaa.Own
namespace Go.Proofs.Ytdldfdcedjmneaa.Own
open Go.RowKit Go.Proofs.YtdldfdcedjmneaaW.PrintWords Go.Proofs.YtdldfdcedjmneaaW.PrintLast Go.Proofs.YtdldfdcedjmneaaW.PrintMore Go.Proofs.Ytdldfdcedjmneaa.Pb Go.Proofs.Ytdldfdcedjmneaa.Br
set_option linter.unusedVariables false
set_option linter.unusedSimpArgs false
abbrev Po := Int × List Int
def sumN (f : Nat → Int) : Nat → Int
  | 0 => 0
  | n + 1 => sumN f n + f n
def atL (l : List Int) (j : Int) : Int := if 0 ≤ j ∧ j < l.length then rd l j else 0
def atP (p : Po) (k : Int) : Int := atL p.2 (k - p.1)
/-- All powers are from -R to R. -/
structure Rg (R : Int) (p : Po) : Prop where
  lo : -R ≤ p.1
  hi : p.1 + p.2.length ≤ R + 1
def plusP (p q : Po) : Po :=
  if p.2.length = 0 then q else if q.2.length = 0 then p else
    (mn p.1 q.1, (List.range (mx (p.1 + p.2.length) (q.1 + q.2.length) - mn p.1 q.1).toNat).map fun (i : Nat) => wrap64 (atP p (mn p.1 q.1 + (i : Int)) + atP q (mn p.1 q.1 + (i : Int))))
def timesP (p q : Po) : Po :=
  if p.2.length = 0 ∨ q.2.length = 0 then (0, []) else
    (p.1 + q.1, (List.range (p.2.length + q.2.length - 1)).map fun (m : Nat) => wrap64 (sumN (fun i => rd p.2 (i : Int) * atL q.2 ((m : Int) - (i : Int))) p.2.length))
theorem mn_le {a b : Int} : mn a b ≤ a ∧ mn a b ≤ b ∧ (mn a b = a ∨ mn a b = b) := by unfold mn; split <;> omega
theorem mx_le {a b : Int} : a ≤ mx a b ∧ b ≤ mx a b ∧ (mx a b = a ∨ mx a b = b) := by unfold mx; split <;> omega
theorem wrap_add (x y : Int) : wrap64 (wrap64 x + wrap64 y) = wrap64 (x + y) := by unfold wrap64; omega
theorem plusP_rg {R : Int} {p q : Po} (hp : Rg R p) (hq : Rg R q) : Rg R (plusP p q) := by
 unfold plusP
 have h1 := @mn_le p.1 q.1
 have h2 := @mx_le (p.1 + p.2.length) (q.1 + q.2.length)
 have a1 := hp.lo
 have a2 := hp.hi
 have a3 := hq.lo
 have a4 := hq.hi
 split
 ·exact hq
 ·split
  ·exact hp
  ·exact ⟨by show -R ≤ mn p.1 q.1; omega, by show mn p.1 q.1 + _ ≤ _; rw [List.length_map, List.length_range]; omega⟩
theorem timesP_rg {R S : Int} {p q : Po} (hp : Rg R p) (hq : Rg S q) (hR : 0 ≤ R) (hS : 0 ≤ S) : Rg (R + S) (timesP p q) := by
 unfold timesP
 have a1 := hp.lo
 have a2 := hp.hi
 have a3 := hq.lo
 have a4 := hq.hi
 split
 ·exact ⟨by show -(R + S) ≤ (0 : Int); omega, by show (0 : Int) + ((([] : List Int).length : Nat) : Int) ≤ _; simp; omega⟩
 ·exact ⟨by show -(R + S) ≤ p.1 + q.1; omega, by show p.1 + q.1 + _ ≤ _; rw [List.length_map, List.length_range]; omega⟩
theorem Rg.mono {R S : Int} {p : Po} (h : Rg R p) (hs : R ≤ S) : Rg S p := ⟨by have := h.lo; omega, by have := h.hi; omega⟩
theorem Rg.nil {R : Int} (h : 0 ≤ R) : Rg R (0, []) := ⟨by show -R ≤ (0 : Int); omega, by show (0 : Int) + ((([] : List Int).length : Nat) : Int) ≤ _; simp; omega⟩
theorem list_of_val {l : List Int} {n : Nat} {v : Nat → Int} (hl : l.length = n) (h : ∀ x, x < n → l.getD x 0 = v x) : l = (List.range n).map v := by
 refine List.ext_getElem (by simp [hl]) fun i h1 h2 => ?_
 have h3 := h i (by omega)
 rw [List.getD_eq_getElem?_getD, List.getElem?_eq_getElem h1] at h3
 simpa using h3
theorem at_eq {R : Int} {p : Po} (hp : Rg R p) (hR : R ≤ 1000000) {k : Int} (h1 : -2000000 ≤ k) (h2 : k ≤ 2000000) : strap_poly_at.f p.1 p.2 k = some (atP p k) := by
 have a1 := hp.lo
 have a2 := hp.hi
 unfold strap_poly_at.f atP atL
 have e1 : wrap64 (p.1 + (p.2.length : Int)) = p.1 + p.2.length := by unfold wrap64; omega
 have e2 : wrap64 (k - p.1) = k - p.1 := by unfold wrap64; omega
 rw [e1, e2]
 by_cases c1 : k < p.1
 ·rw [if_pos c1, if_neg (by omega)]
 ·rw [if_neg c1]
  by_cases c2 : k ≥ p.1 + p.2.length
  ·rw [if_pos c2, if_neg (by omega)]
  ·rw [if_neg c2, if_pos (by omega), if_pos (by omega), if_pos (by omega)]
theorem times_step {xs ys : List Int} {i m : Nat} : sumN (fun (i : Nat) => rd xs (i : Int) * atL ys ((m : Int) - (i : Int))) (i + 1) = sumN (fun (i : Nat) => rd xs (i : Int) * atL ys ((m : Int) - (i : Int))) i + (if i ≤ m ∧ m < i + ys.length then rd xs (i : Int) * rd ys ((m : Int) - (i : Int)) else 0) := by
 show _ + _ = _
 congr 1
 unfold atL
 dsimp only
 by_cases h : i ≤ m ∧ m < i + ys.length
 ·rw [if_pos h, if_pos (by omega)]
 ·rw [if_neg h, if_neg (by omega), Int.mul_zero]
/-- What out holds where the row i has been added up to j. -/
def TInv (xs ys : List Int) (n i j : Nat) (o : List Int) : Prop := o.length = n ∧ ∀ m, m < n → o.getD m 0 = wrap64 (sumN (fun (i : Nat) => rd xs (i : Int) * atL ys ((m : Int) - (i : Int))) i + (if i ≤ m ∧ m < i + j then rd xs (i : Int) * rd ys ((m : Int) - (i : Int)) else 0))
theorem times_l1 {xs ys : List Int} {n : Nat} {c lo : Int} {r : Int × List Int} {i : Nat} (hxs : xs.length ≤ 400000) (hys : ys.length ≤ 400000) (hi : i < xs.length) (hn : n = xs.length + ys.length - 1)
  (hk : ∀ o, TInv xs ys n (i + 1) 0 o → Ev (fun k => strap_poly_times.l0 k xs (xs.length : Int) ((i + 1 : Nat) : Int) c ys lo o) r) : ∀ (d j : Nat) (o : List Int), j + d = ys.length → TInv xs ys n i j o →
  Ev (fun k => strap_poly_times.l1 k (i : Int) (rd xs (i : Int)) xs (xs.length : Int) (i : Int) ys (ys.length : Int) (j : Int) c ys lo o) r
 | 0, j, o, hd, hv => by
  refine Ev.step (fun k => ?_) (hk o ⟨hv.1, fun m hm => ?_⟩)
  ·simp only [strap_poly_times.l1]
   rw [if_neg (by omega), wrap_s (by omega)]
  ·have h1 := hv.2 m hm
   rw [if_neg (by omega), Int.add_zero, times_step, h1]
   have : j = ys.length := by omega
   rw [this]
 | d + 1, j, o, hd, hv => by
  have hij : i + j < n := by omega
  refine Ev.step (fun k => ?_) (times_l1 hxs hys hi hn hk d (j + 1) (o.set (i + j) (wrap64 (o.getD (i + j) 0 + wrap64 (rd xs (i : Int) * rd ys (j : Int))))) (by omega) ⟨by rw [List.length_set]; exact hv.1, fun m hm => ?_⟩)
  ·have e1 : wrap64 ((i : Int) + (j : Int)) = ((i + j : Nat) : Int) := by unfold wrap64; omega
   have hl := hv.1
   simp only [strap_poly_times.l1]
   rw [if_pos (by omega), if_pos (by omega), if_pos (by omega), e1, if_pos (by omega), if_pos (by omega), wrap_s (by omega), rd_nat o, Int.toNat_natCast]
  ·rw [getD_set', hv.1]
   have h1 := hv.2 m hm
   by_cases e : i + j = m
   ·rw [if_pos ⟨e, hm⟩, e, h1, if_neg (by omega), Int.add_zero, wrap_add, if_pos (by omega)]
    have : ((m : Int) - (i : Int)) = (j : Int) := by omega
    rw [this]
   ·rw [if_neg (fun h => e h.1), h1]
    by_cases e2 : i ≤ m ∧ m < i + j
    ·rw [if_pos e2, if_pos (by omega)]
    ·rw [if_neg e2, if_neg (by omega)]
theorem times_l0 {xs ys : List Int} {n : Nat} {c lo : Int} (hxs : xs.length ≤ 400000) (hys : ys.length ≤ 400000) (hn : n = xs.length + ys.length - 1) : ∀ (d i : Nat) (o : List Int), i + d = xs.length → TInv xs ys n i 0 o →
  Ev (fun k => strap_poly_times.l0 k xs (xs.length : Int) (i : Int) c ys lo o) (lo, (List.range n).map fun (m : Nat) => wrap64 (sumN (fun (i : Nat) => rd xs (i : Int) * atL ys ((m : Int) - (i : Int))) xs.length))
 | 0, i, o, hd, hv => by
  have : o = (List.range n).map fun (m : Nat) => wrap64 (sumN (fun (i : Nat) => rd xs (i : Int) * atL ys ((m : Int) - (i : Int))) xs.length) := list_of_val hv.1 fun m hm => by
   have h1 := hv.2 m hm
   rw [if_neg (by omega), Int.add_zero] at h1
   have : i = xs.length := by omega
   rw [h1, this]
  rw [← this]
  exact Ev.step (f := fun _ => some (lo, o)) (fun k => by simp only [strap_poly_times.l0]; rw [if_neg (by omega)]) (Ev.now _)
 | d + 1, i, o, hd, hv => by
  refine Ev.step (fun k => ?_) (times_l1 (c := c) hxs hys (by omega) hn (fun o2 h2 => times_l0 (c := c) hxs hys hn d (i + 1) o2 (by omega) h2) ys.length 0 o (Nat.zero_add _) hv)
  simp only [strap_poly_times.l0]
  rw [if_pos (by omega), if_pos (by omega), if_pos (by omega)]
  rfl
theorem times_ev {R S : Int} {p q : Po} (hp : Rg R p) (hq : Rg S q) (hR : R ≤ 100000) (hS : S ≤ 100000) : Ev (fun k => strap_poly_times.f k p.1 p.2 q.1 q.2) (timesP p q) := by
 have a1 := hp.lo
 have a2 := hp.hi
 have a3 := hq.lo
 have a4 := hq.hi
 unfold strap_poly_times.f timesP
 by_cases c1 : p.2.length = 0
 ·rw [if_pos (Or.inl c1)]
  refine Ev.congr (f := fun k => strap_poly_times.j0 k true p.1 p.2 q.1 q.2) (fun k => by rw [if_pos (by omega)]) ?_
  exact Ev.step (f := fun _ => some (0, ([] : List Int))) (fun k => by simp only [strap_poly_times.j0, if_true]) (Ev.now _)
 ·refine Ev.congr (f := fun k => strap_poly_times.j0 k ((q.2.length : Int) == 0) p.1 p.2 q.1 q.2) (fun k => by rw [if_neg (by omega)]) ?_
  by_cases c2 : q.2.length = 0
  ·rw [if_pos (Or.inr c2)]
   have e : ((q.2.length : Int) == 0) = true := by rw [c2]; rfl
   rw [e]
   exact Ev.step (f := fun _ => some (0, ([] : List Int))) (fun k => by simp only [strap_poly_times.j0, if_true]) (Ev.now _)
  ·rw [if_neg (by omega)]
   have e : ((q.2.length : Int) == 0) = false := beq_eq_false_iff_ne.2 (by omega)
   rw [e]
   have e1 : wrap64 (wrap64 ((p.2.length : Int) + (q.2.length : Int)) - 1) = ((p.2.length + q.2.length - 1 : Nat) : Int) := by unfold wrap64; omega
   have e2 : wrap64 (p.1 + q.1) = p.1 + q.1 := by unfold wrap64; omega
   refine Ev.step (fun k => ?_) (times_l0 (xs := p.2) (ys := q.2) (n := p.2.length + q.2.length - 1) (c := q.1) (lo := p.1 + q.1) (by omega) (by omega) rfl p.2.length 0 (List.replicate (p.2.length + q.2.length - 1) 0) (Nat.zero_add _) ⟨by simp, fun m hm => ?_⟩)
   ·simp only [strap_poly_times.j0]
    rw [e1, e2, if_neg (by simp), if_pos (by omega), if_pos (by omega), Int.toNat_natCast]
    rfl
   ·have h1 : (List.replicate (p.2.length + q.2.length - 1) (0 : Int)).getD m 0 = 0 := by rw [List.getD_eq_getElem?_getD, List.getElem?_replicate]; split <;> rfl
    rw [h1, if_neg (by omega)]
    simp only [sumN]
    unfold wrap64
    omega
end Go.Proofs.Ytdldfdcedjmneaa.Own
namespace Go.Proofs.Ytdldfdcedjmneaa.Own
open Go.RowKit Go.Proofs.YtdldfdcedjmneaaW.PrintWords Go.Proofs.YtdldfdcedjmneaaW.PrintLast Go.Proofs.YtdldfdcedjmneaaW.PrintMore Go.Proofs.Ytdldfdcedjmneaa.Pb Go.Proofs.Ytdldfdcedjmneaa.Br
set_option linter.unusedVariables false
set_option linter.unusedSimpArgs false
attribute [local go_sem] max2_int min2_int
theorem info100 : (Try.prog.info? 100).map (fun i => (i.zero, i.size, i.bytes)) = some (some (.agg #[.int .i64 0, .slice none 0 0]), 2, 32) := by kernel_rfl
theorem f90_any {R : Int} {p : Po} {A : Option Addr} {c n : Nat} {k : Int} (w : World) (hC : Kd.C (Kd.int .i64) w A n p.2) (hc : n ≤ c) (hp : Rg R p) (hR : R ≤ 1000000) (h1 : -2000000 ≤ k) (h2 : k ≤ 2000000) :
  Calls Try.prog 90 #[.agg #[.int .i64 p.1, .slice A n c], .int .i64 k] w fun e w' => e = .returned (.int .i64 (atP p k)) ∧ Below w.heap.size w w' := by
 obtain rfl : p.2.length = n := hC.1
 exact strap_poly_at.calls p.1 A c p.2 k (atP p k) w hC hc (at_eq hp hR h1 h2)
structure PlusSt (w0 wr : World) (g7 m : Nat) (lo : Int) (cp cq : Array Value) (A3 : Option Addr) (c3 : Nat) (o : List Int) : Prop where
  x2 : wr.heap[w0.heap.size]? = some (.cells cp 100 (0, 0))
  x3 : wr.heap[w0.heap.size + 1]? = some (.cells cq 100 (0, 0))
  x4 : wr.heap[w0.heap.size + 1 + 1]? = some (.cells #[.int .i64 0, .slice none 0 0] 100 (0, 0))
  x7 : wr.heap[g7]? = some (.cells #[.int .i64 lo, .slice A3 m c3] 100 (0, 0))
  hr : Kd.R (Kd.int .i64) 3 wr w0.heap.size (fun _ => True) (.slice A3 m c3) o
  bel : Below w0.heap.size w0 wr
section
variable {w0 wr wr' : World} {g7 m : Nat} {lo : Int} {cp cq : Array Value} {A3 : Option Addr} {c3 : Nat} {o : List Int}
theorem PlusSt.cells {x y x2 y2 : Value} (h : PlusSt w0 wr g7 m lo #[x, y] #[x2, y2] A3 c3 o) : wr.cell? ⟨w0.heap.size, 0, none⟩ = some x ∧ wr.cell? ⟨w0.heap.size, 1, none⟩ = some y ∧ wr.cell? ⟨w0.heap.size + 1, 0, none⟩ = some x2 ∧ wr.cell? ⟨w0.heap.size + 1, 1, none⟩ = some y2 ∧ wr.cell? ⟨g7, 1, none⟩ = some (.slice A3 m c3) :=
  ⟨(blk_cell h.x2 0).trans rfl, (blk_cell h.x2 1).trans rfl, (blk_cell h.x3 0).trans rfl, (blk_cell h.x3 1).trans rfl, (blk_cell h.x7 1).trans rfl⟩
theorem PlusSt.below (h : PlusSt w0 wr g7 m lo cp cq A3 c3 o) (hb : Below wr.heap.size wr wr') : PlusSt w0 wr' g7 m lo cp cq A3 c3 o :=
  ⟨blk_below h.x2 hb, blk_below h.x3 hb, blk_below h.x4 hb, blk_below h.x7 hb, Kd.R_below h.hr hb, below_step h.bel hb⟩
theorem PlusSt.put {b : Nat} (h : PlusSt w0 wr g7 m lo cp cq (some ⟨b, 0, none⟩) c3 o) (i : Nat) (x : Int) : PlusSt w0 (wr.setCell ⟨b, i, none⟩ (.int .i64 x)) g7 m lo cp cq (some ⟨b, 0, none⟩) c3 (o.set i x) := by
 have ne : ∀ {g : Nat} {cs : Array Value}, wr.heap[g]? = some (.cells cs 100 (0, 0)) → g ≠ b := fun {g cs} hb e => Kd.R_ne h.hr hb (by decide) (by rw [e]; rfl)
 have h1 := Kd.R_putn h.hr (i : Int) x
 exact ⟨blk_far h.x2 (ne h.x2) _, blk_far h.x3 (ne h.x3) _, blk_far h.x4 (ne h.x4) _, blk_far h.x7 (ne h.x7) _, h1, below_set h.bel (Kd.R_base h.hr b rfl)⟩
end
set_option maxRecDepth 100000 in
set_option maxHeartbeats 4000000 in
theorem f68_any {B : Nat} {R : Int} {p q : Po} {u v : Value} (w : World) (hB : B ≤ w.heap.size) (hu : Kd.R (Kd.int .i64) 3 w B (fun _ => True) u p.2) (hv : Kd.R (Kd.int .i64) 3 w B (fun _ => True) v q.2) (hp : Rg R p) (hq : Rg R q) (hR : R ≤ 100000) :
    Calls Try.prog 68 #[.agg #[.int .i64 p.1, u], .agg #[.int .i64 q.1, v]] w fun e w' => ∃ z, e = .returned (.agg #[.int .i64 (plusP p q).1, z]) ∧ Kd.R (Kd.int .i64) 3 w' B (fun _ => True) z (plusP p q).2 ∧ Below w.heap.size w w' := by
  obtain ⟨p1, p2⟩ := p
  obtain ⟨q1, q2⟩ := q
  dsimp only at hu hv
  obtain ⟨A1, c1, rfl, hl1, hC1⟩ := Kd.R_reads hu
  obtain ⟨A2, c2, rfl, hl2, hC2⟩ := Kd.R_reads hv
  have HU := Aside0.mk hu
  have HV := Aside0.mk hv
  have HPG := Aside0.mk hp
  have HQG := Aside0.mk hq
  have HB := Aside0.mk hB
  have HC1 := Aside0.mk hC1
  have HC2 := Aside0.mk hC2
  obtain ⟨n1, hn1⟩ : ∃ n, p2.length = n := ⟨_, rfl⟩
  obtain ⟨n2, hn2⟩ : ∃ n, q2.length = n := ⟨_, rfl⟩
  rw [hn1, hn2]
  rw [hn1] at hl1
  rw [hn2] at hl2
  have HN1 := Aside0.mk hn1
  have HN2 := Aside0.mk hn2
  clear hu hv hp hq hB hC1 hC2 hn1 hn2
  by_cases k1 : n1 = 0
  · have HK : Aside0 (plusP (p1, p2) (q1, q2) = (q1, q2)) := ⟨by unfold plusP; rw [if_pos (by rw [HN1.out]; exact k1)]⟩
    rw [HK.out]
    have kb : ((n1 : Int) == 0) = true := by rw [k1]; rfl
    clear k1
    go_enter Try.func68, Try.ntmps68
    go_wp2
    refine bodyPost_ret (v := .agg #[.int .i64 q1, .slice A2 n2 c2]) (by simp [results, Try.results68, go_sem]) rfl ⟨_, rfl, ?_, ?_⟩
    · have h := HV.out
      rw [HN2.out] at h
      exact Kd.R_below h (by repeat (first | exact Below.refl _ _ | apply below_alloc | apply pw_below_drewN | apply below_drew1 | (refine below_set ?_ (by simp))))
    · repeat (first | exact Below.refl _ _ | apply below_alloc | apply pw_below_drewN | apply below_drew1 | (refine below_set ?_ (by simp)))
  · have kb : ((n1 : Int) == 0) = false := beq_eq_false_iff_ne.2 (by omega)
    by_cases k2 : n2 = 0
    · have HK : Aside0 (plusP (p1, p2) (q1, q2) = (p1, p2)) := ⟨by unfold plusP; rw [if_neg (by rw [HN1.out]; exact k1), if_pos (by rw [HN2.out]; exact k2)]⟩
      rw [HK.out]
      have kb2 : ((n2 : Int) == 0) = true := by rw [k2]; rfl
      clear k1 k2
      go_enter Try.func68, Try.ntmps68
      go_wp2
      refine bodyPost_ret (v := .agg #[.int .i64 p1, .slice A1 n1 c1]) (by simp [results, Try.results68, go_sem]) rfl ⟨_, rfl, ?_, ?_⟩
      · have h := HU.out
        rw [HN1.out] at h
        exact Kd.R_below h (by repeat (first | exact Below.refl _ _ | apply below_alloc | apply pw_below_drewN | apply below_drew1 | (refine below_set ?_ (by simp))))
      · repeat (first | exact Below.refl _ _ | apply below_alloc | apply pw_below_drewN | apply below_drew1 | (refine below_set ?_ (by simp)))
    · have kb2 : ((n2 : Int) == 0) = false := beq_eq_false_iff_ne.2 (by omega)
      have b1 := HPG.out.lo
      have b2 := HPG.out.hi
      have b3 := HQG.out.lo
      have b4 := HQG.out.hi
      dsimp only at b1 b2 b3 b4
      rw [HN1.out] at b2
      rw [HN2.out] at b4
      have b5 : -100000 ≤ p1 := by omega
      have b6 : p1 + (n1 : Int) ≤ 100001 := by omega
      have b7 : -100000 ≤ q1 := by omega
      have b8 : q1 + (n2 : Int) ≤ 100001 := by omega
      clear b1 b2 b3 b4
      have HM1 := Aside0.mk (@mn_le p1 q1)
      have HM2 := Aside0.mk (@mx_le (p1 + (n1 : Int)) (q1 + (n2 : Int)))
      obtain ⟨lo, hlo⟩ : ∃ x, mn p1 q1 = x := ⟨_, rfl⟩
      obtain ⟨hi, hhi⟩ : ∃ x, mx (p1 + (n1 : Int)) (q1 + (n2 : Int)) = x := ⟨_, rfl⟩
      have HLO := Aside0.mk hlo
      have HHI := Aside0.mk hhi
      have d1 : -100000 ≤ lo := by have := HM1.out; rw [hlo] at this; omega
      have d2 : lo ≤ 100001 := by have := HM1.out; rw [hlo] at this; omega
      have d3 : lo ≤ hi := by have := HM1.out; rw [hlo] at this; have := HM2.out; rw [hhi] at this; omega
      have d4 : hi ≤ 100001 := by have := HM2.out; rw [hhi] at this; omega
      have hlo2 : (if q1 < p1 then q1 else p1) = lo := hlo
      have hhi2 : (if p1 + (n1 : Int) < q1 + (n2 : Int) then q1 + (n2 : Int) else p1 + (n1 : Int)) = hi := hhi
      obtain ⟨m, hm⟩ : ∃ m : Nat, hi - lo = (m : Int) := ⟨(hi - lo).toNat, by omega⟩
      have HM := Aside0.mk hm
      have d5 : m ≤ 200001 := by omega
      have s1 : IntKind.i64.wrap (p1 + (n1 : Int)) = p1 + n1 := IntWalk.i64_in _ (by omega)
      have s2 : IntKind.i64.wrap (q1 + (n2 : Int)) = q1 + n2 := IntWalk.i64_in _ (by omega)
      clear k1 k2 hlo hhi hm
      go_enter Try.func68, Try.ntmps68
      go_wp2
      go_quiet (fail)
      clear s1 s2 hlo2 hhi2
      obtain ⟨W0, hW0⟩ : ∃ W, W = ((((w.alloc (.cells #[.int .i64 p1, .slice A1 n1 c1] 100)).alloc (.cells #[.int .i64 q1, .slice A2 n2 c2] 100)).alloc (.cells #[.int .i64 0, .slice none 0 0] 100)).drewN nq) := ⟨_, rfl⟩
      rw [← hW0]
      have x2 : W0.heap[w.heap.size]? = some (.cells #[.int .i64 p1, .slice A1 n1 c1] 100 (0, 0)) := by rw [hW0]; exact blk_drewN (blk_alloc (blk_alloc (heap_alloc_new _ _) _) _) _
      have x3 : W0.heap[w.heap.size + 1]? = some (.cells #[.int .i64 q1, .slice A2 n2 c2] 100 (0, 0)) := by rw [hW0, ← size_alloc w (.cells #[.int .i64 p1, .slice A1 n1 c1] 100)]; exact blk_drewN (blk_alloc (heap_alloc_new _ _) _) _
      have x4 : W0.heap[w.heap.size + 1 + 1]? = some (.cells #[.int .i64 0, .slice none 0 0] 100 (0, 0)) := by rw [hW0, ← size_alloc w (.cells #[.int .i64 p1, .slice A1 n1 c1] 100), ← size_alloc _ (.cells #[.int .i64 q1, .slice A2 n2 c2] 100)]; exact blk_drewN (heap_alloc_new _ _) _
      have xB : Below w.heap.size w W0 := by rw [hW0]; repeat (first | exact Below.refl _ _ | apply below_alloc | apply pw_below_drewN)
      have xs : W0.heap.size = w.heap.size + 3 := by rw [hW0]; show (((w.alloc _).alloc _).alloc _).heap.size = _; rw [size_alloc, size_alloc, size_alloc]
      have X2 := Aside0.mk x2
      have X3 := Aside0.mk x3
      have X4 := Aside0.mk x4
      have XB := Aside0.mk xB
      have XS := Aside0.mk xs
      clear hW0 x2 x3 x4 xB xs
      go_wp2_with (((with_reducible refine gate_dst (N := 43) rfl ?_); refine Kd.R_make (Kd.int .i64) W0.heap.size 3 rfl (N := 43) rfl 22 _ _ rfl (hi - lo) rfl rfl Try.underlying22 (.int .i64 0) 8 info3 rfl (by decide) (by omega) 0 (ok := fun _ => True) (okp := fun _ => True) rfl (fun _ hk => hk) trivial (by omega) (by omega) (Below.refl _ _) (Nat.le_refl _) ?_; intro v43 w43 ho hb hg_ hnew_; clear hg_ hnew_; have hlen : (List.replicate (hi - lo).toNat (0 : Int)).length = m := (by rw [List.length_replicate]; have := HM.out; omega); obtain ⟨A3, c3, e3, hz3⟩ := Kd.R_reads ho; clear hz3; rw [hlen] at e3; subst e3; have HO := Aside0.mk ho; have HB43 := Aside0.mk hb; clear ho hb hlen))
      have HS0 : Aside0 (PlusSt w (w43.alloc (.cells #[.int .i64 lo, .slice A3 m c3] 100)) w43.heap.size m lo #[.int .i64 p1, .slice A1 n1 c1] #[.int .i64 q1, .slice A2 n2 c2] A3 c3 (List.replicate (hi - lo).toNat 0)) := ⟨blk_alloc (blk_below X2.out HB43.out) _, blk_alloc (blk_below X3.out HB43.out) _, blk_alloc (blk_below X4.out HB43.out) _, heap_alloc_new _ _, Kd.R_alloc (Kd.R_lower HO.out (by have := XS.out; omega)) _, below_alloc (below_step XB.out HB43.out) _⟩
      clear HO HB43 X2 X3 X4 XB XS
      generalize w43.heap.size = g7 at *
      generalize (w43.alloc (.cells #[.int .i64 lo, .slice A3 m c3] 100)) = W1 at *
      have HLN : Aside0 ((List.replicate (hi - lo).toNat (0 : Int)).length = m) := ⟨by rw [List.length_replicate]; have := HM.out; omega⟩
      generalize List.replicate (hi - lo).toNat (0 : Int) = o0 at *
      go_loopg [48] m (fun kq s48 wr => ∃ (i : Nat) (o : List Int), s48 = .int .i64 i ∧ i ≤ m ∧ m - i ≤ kq ∧ Aside0 (PlusSt w wr g7 m lo #[.int .i64 p1, .slice A1 n1 c1] #[.int .i64 q1, .slice A2 n2 c2] A3 c3 o) ∧ Aside0 (o.length = m) ∧ Aside0 (∀ x, x < i → o.getD x 0 = wrap64 (atP (p1, p2) (lo + (x : Int)) + atP (q1, q2) (lo + (x : Int)))))
      case atStart => exact ⟨0, o0, rfl, by omega, by omega, HS0, HLN, ⟨fun x hx => by omega⟩⟩
      case round =>
        clear HS0 HLN
        obtain ⟨i, o, rfl, hi', hgg, HS, HL, HV'⟩ := hrel
        by_cases hlt : i < m
        · have hlt2 : (i : Int) < (m : Int) := by omega
          have hi0 : (0 : Int) ≤ (i : Int) := by omega
          go_upto_region 10 with (fail)
          have hSt : PlusSt w wr.drew g7 m lo #[.int .i64 p1, .slice A1 n1 c1] #[.int .i64 q1, .slice A2 n2 c2] A3 c3 o := HS.out.below (below_drew1 (Below.refl _ _))
          have hS := hSt.cells
          have h90 := f90_any (R := R) (p := (p1, p2)) (k := lo + (i : Int)) wr.drew (by have h := Kd.C_below HC1.out hSt.bel; rw [HN1.out] at h; exact h) hl1 HPG.out (by omega) (by omega) (by omega)
          have HT := Aside0.mk hSt
          have s1 : IntKind.i64.wrap (lo + (i : Int)) = lo + (i : Int) := IntWalk.i64_in _ (by omega)
          have hm0 : 0 < o.length := by rw [HL.out]; omega
          obtain ⟨b3, cap3, hv3, _⟩ := Kd.R_form hSt.hr hm0
          injection hv3 with hA3 hB3 hC3
          subst hA3
          clear hSt hB3 hC3 hm0
          refine wp_region_T 15 (fun w' => w'.cell? ⟨w.heap.size, 0, none⟩ = some (.int .i64 p1) ∧ w'.cell? ⟨w.heap.size, 1, none⟩ = some (.slice A1 n1 c1) ∧ w'.cell? ⟨w.heap.size + 1, 0, none⟩ = some (.int .i64 q1) ∧ w'.cell? ⟨w.heap.size + 1, 1, none⟩ = some (.slice A2 n2 c2) ∧ w'.cell? ⟨g7, 1, none⟩ = some (.slice (some ⟨b3, 0, none⟩) m c3)) (by kernel_rfl) ?_
          refine tk 0 ?_
          refine tk 1 ?_
          refine tk 2 ?_
          refine tk 3 ?_
          refine tk 4 ?_
          refine tk 5 ?_
          refine tk 6 ?_
          refine tk 8 ?_
          refine tk 9 ?_
          refine tk 10 ?_
          refine tk 11 ?_
          refine wpAnyT_one (i := 7) (by kernel_rfl) rfl (fun K hK => ?_)
          go_wp2_with (go_at_call 90; (with_reducible refine h90.mono ?_); rintro e w5 ⟨rfl, hb5⟩; have HT5 := Aside0.mk (HT.out.below hb5); clear hb5)
          refine hK _ _ (fun _ => ?_) ?_
          · exact HT5.out.cells
          clear hK K
          (try simp only [Act.put, List.setIfInBounds_toArray, List.set_cons_zero, List.set_cons_succ])
          have hS5 := HT5.out.cells
          have h90b := f90_any (R := R) (p := (q1, q2)) (k := lo + (i : Int)) w5 (by have h := Kd.C_below HC2.out HT5.out.bel; rw [HN2.out] at h; exact h) hl2 HQG.out (by omega) (by omega) (by omega)
          clear h90 hS
          refine wpAnyT_one (i := 12) (by kernel_rfl) rfl (fun K hK => ?_)
          go_wp2_with (go_at_call 90; (with_reducible refine h90b.mono ?_); rintro e w6 ⟨rfl, hb6⟩; have HT6 := Aside0.mk (HT5.out.below hb6); clear hb6)
          refine hK _ _ (fun _ => ?_) ?_
          · exact HT6.out.cells
          clear hK K
          (try simp only [Act.put, List.setIfInBounds_toArray, List.set_cons_zero, List.set_cons_succ])
          have hS6 := HT6.out.cells
          clear h90b hS5
          obtain ⟨hcc, hff⟩ := Kd.R_celln 0 HT6.out.hr (i : Int) hi0 hlt2
          rw [Int.toNat_natCast] at hcc hff
          refine tk 13 ?_
          refine tk 14 ?_
          refine wpAnyT_one (i := 15) (by kernel_rfl) rfl (fun K hK => ?_)
          go_wp2
          refine hK _ _ (fun h => absurd rfl h) ?_
          clear hK K
          (try simp only [Act.put, List.setIfInBounds_toArray, List.set_cons_zero, List.set_cons_succ])
          refine wpAnyT_done (by kernel_rfl) ?_ _
          go_wp2
          go_roundg (m - (i + 1))
          case measure => omega
          case rel =>
            refine ⟨i + 1, _, by go_num, by omega, Nat.le_refl _, ⟨HT6.out.put i _⟩, ⟨by rw [List.length_set]; exact HL.out⟩, ⟨fun x hx => ?_⟩⟩
            rw [getD_set', HL.out]
            by_cases e : i = x
            · rw [if_pos ⟨e, by omega⟩, ← e, ← i64_w]
            · rw [if_neg (fun h => e h.1)]
              exact HV'.out x (by omega)
        · have hval : Aside0 (plusP (p1, p2) (q1, q2) = (lo, o)) := ⟨by
            unfold plusP
            rw [if_neg (by rw [HN1.out]; exact beq_eq_false_iff_ne.1 kb ∘ Int.ofNat_inj.2), if_neg (by rw [HN2.out]; exact beq_eq_false_iff_ne.1 kb2 ∘ Int.ofNat_inj.2)]
            dsimp only
            rw [HN1.out, HN2.out, HLO.out, HHI.out]
            have : (hi - lo).toNat = m := by have := HM.out; omega
            rw [this, ← list_of_val HL.out (fun x hx => HV'.out x (by omega))]⟩
          obtain ⟨y1, y2⟩ : wr.cell? ⟨g7, 0, none⟩ = some (.int .i64 lo) ∧ wr.cell? ⟨g7, 1, none⟩ = some (.slice A3 m c3) := ⟨(blk_cell HS.out.x7 0).trans rfl, (blk_cell HS.out.x7 1).trans rfl⟩
          obtain ⟨y3, y4⟩ : wr.cell? ⟨w.heap.size + 1 + 1, 0, none⟩ = some (.int .i64 0) ∧ wr.cell? ⟨w.heap.size + 1 + 1, 1, none⟩ = some (.slice none 0 0) := ⟨(blk_cell HS.out.x4 0).trans rfl, (blk_cell HS.out.x4 1).trans rfl⟩
          have y5 := blk_frozen HS.out.x4 0
          have y6 := blk_frozen HS.out.x4 1
          go_wp2
          have z1 : (wr.setCell ⟨w.heap.size + 1 + 1, 0, none⟩ (.int .i64 lo)).cell? ⟨w.heap.size + 1 + 1, 0, none⟩ = some (.int .i64 lo) := (blk_cell (blk_set HS.out.x4 0 _) 0).trans rfl
          have z2 : ((wr.setCell ⟨w.heap.size + 1 + 1, 0, none⟩ (.int .i64 lo)).setCell ⟨w.heap.size + 1 + 1, 1, none⟩ (.slice A3 m c3)).cell? ⟨w.heap.size + 1 + 1, 1, none⟩ = some (.slice A3 m c3) := (blk_cell (blk_set (blk_set HS.out.x4 0 _) 1 _) 1).trans rfl
          refine bodyPost_ret (v := .agg #[.int .i64 lo, .slice A3 m c3]) (by simp [results, Try.results68, go_sem, z1, z2]) rfl ⟨.slice A3 m c3, by rw [hval.out], ?_, ?_⟩
          · rw [hval.out]
            exact Kd.R_lower (Kd.R_set (Kd.R_set HS.out.hr HS.out.x4 (by decide) 0 _) (blk_set HS.out.x4 0 _) (by decide) 1 _) HB.out
          · exact below_set (below_set HS.out.bel (by show w.heap.size ≤ w.heap.size + 1 + 1; omega)) (by show w.heap.size ≤ w.heap.size + 1 + 1; omega)
end Go.Proofs.Ytdldfdcedjmneaa.Own
namespace Go.Proofs.Ytdldfdcedjmneaa.Own
open Go.RowKit Go.Proofs.YtdldfdcedjmneaaW.PrintWords Go.Proofs.YtdldfdcedjmneaaW.PrintLast Go.Proofs.YtdldfdcedjmneaaW.PrintMore Go.Proofs.Ytdldfdcedjmneaa.Pb Go.Proofs.Ytdldfdcedjmneaa.Br
set_option linter.unusedVariables false
set_option linter.unusedSimpArgs false
/-- A row of numbers that is read, told by its value. -/
abbrev Rw (w : World) (B : Nat) (v : Value) (l : List Int) : Prop := Kd.R (Kd.int .i64) 3 w B (fun _ => True) v l
theorem f69_any {B : Nat} {R S : Int} {p q : Po} {u v : Value} (w : World) (hB : B ≤ w.heap.size) (hu : Rw w B u p.2) (hv : Rw w B v q.2) (hp : Rg R p) (hq : Rg S q) (hR : R ≤ 100000) (hS : S ≤ 100000) :
  Calls Try.prog 69 #[.agg #[.int .i64 p.1, u], .agg #[.int .i64 q.1, v]] w fun e w' => ∃ z, e = .returned (.agg #[.int .i64 (timesP p q).1, z]) ∧ Rw w' B z (timesP p q).2 ∧ Below w.heap.size w w' := by
 obtain ⟨A1, c1, rfl, hl1, hC1⟩ := Kd.R_reads hu
 obtain ⟨A2, c2, rfl, hl2, hC2⟩ := Kd.R_reads hv
 obtain ⟨k, hk⟩ := (times_ev hp hq hR hS).rounds
 refine (strap_poly_times.calls k p.1 A1 c1 p.2 q.1 A2 c2 q.2 (timesP p q).1 (timesP p q).2 w hC1 hl1 hC2 hl2 hk).mono ?_
 rintro e w' ⟨z, rfl, h1, h2⟩
 exact ⟨z, rfl, Kd.R_lower h1 hB, h2⟩
/-- A box that holds a polynomial. -/
structure Pol (w : World) (B g : Nat) (v : Value) (p : Po) : Prop where
  blk : w.heap[g]? = some (.cells #[.int .i64 p.1, v] 100 (0, 0))
  row : Rw w B v p.2
section
variable {w w' : World} {B g : Nat} {v : Value} {p : Po}
theorem Pol.below (h : Pol w B g v p) (hb : Below w.heap.size w w') : Pol w' B g v p := ⟨blk_below h.blk hb, Kd.R_below h.row hb⟩
theorem Pol.far {k t : Nat} {cs : Array Value} (h : Pol w B g v p) (hk : w.heap[k]? = some (.cells cs t (0, 0))) (h1 : t ≠ 100) (h2 : t ≠ 3) (j : Nat) (u : Value) : Pol (w.setCell ⟨k, j, none⟩ u) B g v p :=
  ⟨blk_far h.blk (blk_ne h.blk hk (Ne.symm h1)) u, Kd.R_set h.row hk (fun q hq => by have : q = 3 := (by simpa [Kd.int, Kd.scalar] using hq); omega) j u⟩
theorem Pol.c0 (h : Pol w B g v p) : w.cell? ⟨g, 0, none⟩ = some (.int .i64 p.1) := (blk_cell h.blk 0).trans rfl
theorem Pol.c1 (h : Pol w B g v p) : w.cell? ⟨g, 1, none⟩ = some v := (blk_cell h.blk 1).trans rfl
end
/-- What a block does: the two functions. -/
def blkUp (gm gu : Nat) : Value := .func (.func 101) #[] #[.pointer (some ⟨gm, 0, none⟩), .pointer (some ⟨gu, 0, none⟩)]
def blkDn (gd gl : Nat) : Value := .func (.func 102) #[] #[.pointer (some ⟨gd, 0, none⟩), .pointer (some ⟨gl, 0, none⟩)]
theorem row_blk {w : World} {B g : Nat} {l : List Int} {cs : Array Value} (h : w.heap[g]? = some (.cells cs 3 (0, 0))) (hB : B ≤ g) (hl : l.length ≤ 1000) (hcs : cs.toList = l.map (Value.int .i64)) : Rw w B (.slice (some ⟨g, 0, none⟩) l.length l.length) l := by
 have hsz : cs.size = l.length := by rw [← Array.length_toList, hcs, List.length_map]
 refine Kd.R_of_own ⟨by simp [encs], .inr ⟨g, l.length, cs, rfl, hB, h, Nat.le_refl _, by simp only [maxLen]; omega, by rw [hsz, Nat.mul_one], ?_⟩⟩ (fun _ _ => trivial)
 rw [List.take_of_length_le (by rw [Array.length_toList, hsz]; omega), hcs]
 rfl
/-- What the two blocks refer to. -/
structure Blks (w : World) (B gm gu gd gl : Nat) : Prop where
  m : ∃ v, Pol w B gm v (0, [1, -1])
  u : ∃ v, Pol w B gu v (1, [1])
  d : ∃ v, Pol w B gd v (-1, [1])
  l : ∃ v, Pol w B gl v (-1, [-1, 1])
theorem Blks.below {w w' : World} {B gm gu gd gl : Nat} (h : Blks w B gm gu gd gl) (hb : Below w.heap.size w w') : Blks w' B gm gu gd gl :=
  ⟨h.m.imp fun _ h => h.below hb, h.u.imp fun _ h => h.below hb, h.d.imp fun _ h => h.below hb, h.l.imp fun _ h => h.below hb⟩
theorem Blks.far {w : World} {B gm gu gd gl k : Nat} {cs : Array Value} (h : Blks w B gm gu gd gl) (hk : w.heap[k]? = some (.cells cs 123 (0, 0))) (j : Nat) (u : Value) : Blks (w.setCell ⟨k, j, none⟩ u) B gm gu gd gl :=
  ⟨h.m.imp fun _ h => h.far hk (by decide) (by decide) j u, h.u.imp fun _ h => h.far hk (by decide) (by decide) j u, h.d.imp fun _ h => h.far hk (by decide) (by decide) j u, h.l.imp fun _ h => h.far hk (by decide) (by decide) j u⟩
def BlksR (w w' : World) (e : Ending) : Prop := ∃ gm gu gd gl, e = .returned (.tuple #[.agg #[blkUp gm gu], .agg #[blkDn gd gl]]) ∧ Blks w' w.heap.size gm gu gd gl ∧ Below w.heap.size w w'
set_option maxRecDepth 100000 in
set_option maxHeartbeats 4000000 in
theorem f86_any (w : World) : Calls Try.prog 86 #[] w fun e w' => BlksR w w' e := by
 obtain ⟨W0, hW0⟩ : ∃ W, W = ((((((((((w.alloc (.cells #[.nilFunc] 123)).alloc (.cells #[.nilFunc] 123)).alloc (.cells #[.int .i64 1] 3)).alloc (.cells #[.int .i64 1] 3)).alloc (.cells #[.int .i64 1, .slice (some ⟨w.heap.size + 1 + 1, 0, none⟩) 1 1] 100)).alloc (.cells #[.int .i64 (-1), .slice (some ⟨w.heap.size + 1 + 1 + 1, 0, none⟩) 1 1] 100)).alloc (.cells #[.int .i64 1, .int .i64 (-1)] 3)).alloc (.cells #[.int .i64 (-1), .int .i64 1] 3)).alloc (.cells #[.int .i64 0, .slice (some ⟨w.heap.size + 1 + 1 + 1 + 1 + 1 + 1, 0, none⟩) 2 2] 100)).alloc (.cells #[.int .i64 (-1), .slice (some ⟨w.heap.size + 1 + 1 + 1 + 1 + 1 + 1 + 1, 0, none⟩) 2 2] 100)) := ⟨_, rfl⟩
 have HW := Aside0.mk hW0
 obtain ⟨N, hN⟩ : ∃ N, w.heap.size = N := ⟨_, rfl⟩
 have hb : Below w.heap.size w W0 := by rw [hW0]; repeat (first | exact Below.refl _ _ | apply below_alloc)
 have hp : W0.heap = w.heap ++ #[Obj.cells #[.nilFunc] 123, .cells #[.nilFunc] 123, .cells #[.int .i64 1] 3, .cells #[.int .i64 1] 3, .cells #[.int .i64 1, .slice (some ⟨N + 1 + 1, 0, none⟩) 1 1] 100, .cells #[.int .i64 (-1), .slice (some ⟨N + 1 + 1 + 1, 0, none⟩) 1 1] 100, .cells #[.int .i64 1, .int .i64 (-1)] 3, .cells #[.int .i64 (-1), .int .i64 1] 3, .cells #[.int .i64 0, .slice (some ⟨N + 1 + 1 + 1 + 1 + 1 + 1, 0, none⟩) 2 2] 100, .cells #[.int .i64 (-1), .slice (some ⟨N + 1 + 1 + 1 + 1 + 1 + 1 + 1, 0, none⟩) 2 2] 100] := by
  rw [hW0, hN]
  show ((((((((((w.heap.push _).push _).push _).push _).push _).push _).push _).push _).push _).push _) = _
  apply Array.ext'
  simp
 have hat : ∀ j k : Nat, k = N + j → W0.heap[k]? = (#[Obj.cells #[.nilFunc] 123, .cells #[.nilFunc] 123, .cells #[.int .i64 1] 3, .cells #[.int .i64 1] 3, .cells #[.int .i64 1, .slice (some ⟨N + 1 + 1, 0, none⟩) 1 1] 100, .cells #[.int .i64 (-1), .slice (some ⟨N + 1 + 1 + 1, 0, none⟩) 1 1] 100, .cells #[.int .i64 1, .int .i64 (-1)] 3, .cells #[.int .i64 (-1), .int .i64 1] 3, .cells #[.int .i64 0, .slice (some ⟨N + 1 + 1 + 1 + 1 + 1 + 1, 0, none⟩) 2 2] 100, .cells #[.int .i64 (-1), .slice (some ⟨N + 1 + 1 + 1 + 1 + 1 + 1 + 1, 0, none⟩) 2 2] 100] : Array Obj)[j]? := fun j k e => by
  rw [hp, e, Array.getElem?_append_right (by omega)]
  congr 1
  omega
 have x0 : W0.heap[N]? = some (.cells #[.nilFunc] 123 (0, 0)) := hat 0 _ (by omega)
 have x1 : W0.heap[N + 1]? = some (.cells #[.nilFunc] 123 (0, 0)) := hat 1 _ (by omega)
 have x2 : W0.heap[N + 1 + 1]? = some (.cells #[.int .i64 1] 3 (0, 0)) := hat 2 _ (by omega)
 have x3 : W0.heap[N + 1 + 1 + 1]? = some (.cells #[.int .i64 1] 3 (0, 0)) := hat 3 _ (by omega)
 have x4 : W0.heap[N + 1 + 1 + 1 + 1]? = some (.cells #[.int .i64 1, .slice (some ⟨N + 1 + 1, 0, none⟩) 1 1] 100 (0, 0)) := hat 4 _ (by omega)
 have x5 : W0.heap[N + 1 + 1 + 1 + 1 + 1]? = some (.cells #[.int .i64 (-1), .slice (some ⟨N + 1 + 1 + 1, 0, none⟩) 1 1] 100 (0, 0)) := hat 5 _ (by omega)
 have x6 : W0.heap[N + 1 + 1 + 1 + 1 + 1 + 1]? = some (.cells #[.int .i64 1, .int .i64 (-1)] 3 (0, 0)) := hat 6 _ (by omega)
 have x7 : W0.heap[N + 1 + 1 + 1 + 1 + 1 + 1 + 1]? = some (.cells #[.int .i64 (-1), .int .i64 1] 3 (0, 0)) := hat 7 _ (by omega)
 have x8 : W0.heap[N + 1 + 1 + 1 + 1 + 1 + 1 + 1 + 1]? = some (.cells #[.int .i64 0, .slice (some ⟨N + 1 + 1 + 1 + 1 + 1 + 1, 0, none⟩) 2 2] 100 (0, 0)) := hat 8 _ (by omega)
 have x9 : W0.heap[N + 1 + 1 + 1 + 1 + 1 + 1 + 1 + 1 + 1]? = some (.cells #[.int .i64 (-1), .slice (some ⟨N + 1 + 1 + 1 + 1 + 1 + 1 + 1, 0, none⟩) 2 2] 100 (0, 0)) := hat 9 _ (by omega)
 have hX : Blks W0 w.heap.size (N + 1 + 1 + 1 + 1 + 1 + 1 + 1 + 1) (N + 1 + 1 + 1 + 1) (N + 1 + 1 + 1 + 1 + 1) (N + 1 + 1 + 1 + 1 + 1 + 1 + 1 + 1 + 1) := by
  refine ⟨⟨_, x8, ?_⟩, ⟨_, x4, ?_⟩, ⟨_, x5, ?_⟩, ⟨_, x9, ?_⟩⟩
  ·exact row_blk (l := [1, -1]) x6 (by omega) (by simp) rfl
  ·exact row_blk (l := [1]) x2 (by omega) (by simp) rfl
  ·exact row_blk (l := [1]) x3 (by omega) (by simp) rfl
  ·exact row_blk (l := [-1, 1]) x7 (by omega) (by simp) rfl
 have HX := Aside0.mk hX
 have X0 := Aside0.mk x0
 have X1 := Aside0.mk x1
 have HB := Aside0.mk hb
 have HN := Aside0.mk hN
 clear hW0 hp hat x0 x1 x2 x3 x4 x5 x6 x7 x8 x9 hX hb hN
 go_enter Try.func86, Try.ntmps86
 go_upto_region 3 with (fail)
 rw [← HW.out, HN.out]
 obtain ⟨y0, y1⟩ := And.intro ((blk_cell X0.out 0).trans rfl : W0.cell? ⟨N, 0, none⟩ = some .nilFunc) (blk_frozen X0.out 0)
 obtain ⟨y2, y3⟩ := And.intro ((blk_cell X1.out 0).trans rfl : W0.cell? ⟨N + 1, 0, none⟩ = some .nilFunc) (blk_frozen X1.out 0)
 go_wp2
 obtain ⟨U, hU⟩ : ∃ U, U = Value.func (.func 101) #[] #[.pointer (some ⟨N + 1 + 1 + 1 + 1 + 1 + 1 + 1 + 1, 0, none⟩), .pointer (some ⟨N + 1 + 1 + 1 + 1, 0, none⟩)] := ⟨_, rfl⟩
 obtain ⟨V, hV⟩ : ∃ V, V = Value.func (.func 102) #[] #[.pointer (some ⟨N + 1 + 1 + 1 + 1 + 1, 0, none⟩), .pointer (some ⟨N + 1 + 1 + 1 + 1 + 1 + 1 + 1 + 1 + 1, 0, none⟩)] := ⟨_, rfl⟩
 rw [← hU, ← hV]
 have k1 : ((W0.setCell ⟨N, 0, none⟩ U).setCell ⟨N + 1, 0, none⟩ V).heap[N]? = some (.cells #[U] 123 (0, 0)) := blk_far (blk_set X0.out 0 U) (by show N ≠ N + 1; omega) V
 have k2 : (W0.setCell ⟨N, 0, none⟩ U).heap[N + 1]? = some (.cells #[.nilFunc] 123 (0, 0)) := blk_far X1.out (by show N + 1 ≠ N; omega) U
 have k3 : ((W0.setCell ⟨N, 0, none⟩ U).setCell ⟨N + 1, 0, none⟩ V).heap[N + 1]? = some (.cells #[V] 123 (0, 0)) := blk_set k2 0 V
 have hF := (HX.out.far X0.out 0 U).far k2 0 V
 have hFB : Below w.heap.size w ((W0.setCell ⟨N, 0, none⟩ U).setCell ⟨N + 1, 0, none⟩ V) := below_set (below_set HB.out (by show _ ≤ N; have := HN.out; omega)) (by show _ ≤ N + 1; have := HN.out; omega)
 generalize (W0.setCell ⟨N, 0, none⟩ U).setCell ⟨N + 1, 0, none⟩ V = F at *
 have c1 : F.cell? ⟨N, 0, none⟩ = some U := (blk_cell k1 0).trans rfl
 have c2 : F.cell? ⟨N + 1, 0, none⟩ = some V := (blk_cell k3 0).trans rfl
 clear y0 y1 y2 y3 k1 k2 k3
 subst hU hV
 refine bodyPost_ret (v := .tuple #[.agg #[blkUp (N + 1 + 1 + 1 + 1 + 1 + 1 + 1 + 1) (N + 1 + 1 + 1 + 1)], .agg #[blkDn (N + 1 + 1 + 1 + 1 + 1) (N + 1 + 1 + 1 + 1 + 1 + 1 + 1 + 1 + 1)]]) (by simp [results, Try.results86, go_sem, c1, c2, blkUp, blkDn]) rfl ⟨_, _, _, _, rfl, hF, hFB⟩
end Go.Proofs.Ytdldfdcedjmneaa.Own
namespace Go.Proofs.Ytdldfdcedjmneaa.Own
open Go.RowKit Go.Proofs.YtdldfdcedjmneaaW.PrintWords Go.Proofs.YtdldfdcedjmneaaW.PrintLast Go.Proofs.YtdldfdcedjmneaaW.PrintMore Go.Proofs.Ytdldfdcedjmneaa.Pb Go.Proofs.Ytdldfdcedjmneaa.Br
set_option linter.unusedVariables false
set_option linter.unusedSimpArgs false
/-- Two polynomials are handed back. -/
def TwoR (w w' : World) (B : Nat) (x y : Po) (e : Ending) : Prop := ∃ vx vy, e = .returned (.tuple #[.agg #[.int .i64 x.1, vx], .agg #[.int .i64 y.1, vy]]) ∧ Rw w' B vx x.2 ∧ Rw w' B vy y.2 ∧ Below w.heap.size w w'
theorem Pol.off {w : World} {B g k : Nat} {v : Value} {p : Po} {cs : Array Value} (h : Pol w B g v p) (hne : g ≠ k) (hk : w.heap[k]? = some (.cells cs 100 (0, 0))) (j : Nat) (u : Value) : Pol (w.setCell ⟨k, j, none⟩ u) B g v p :=
  ⟨blk_far h.blk hne u, Kd.R_set h.row hk (fun q hq => by have : q = 3 := (by simpa [Kd.int, Kd.scalar] using hq); omega) j u⟩
theorem Rw.off {w : World} {B k : Nat} {v : Value} {l : List Int} {cs : Array Value} (h : Rw w B v l) (hk : w.heap[k]? = some (.cells cs 100 (0, 0))) (j : Nat) (u : Value) : Rw (w.setCell ⟨k, j, none⟩ u) B v l :=
  Kd.R_set h hk (fun q hq => by have : q = 3 := (by simpa [Kd.int, Kd.scalar] using hq); omega) j u
structure ClS (w0 wr : World) (B N gm gu : Nat) (va vb vm vu : Value) (a b m u : Po) : Prop where
  a : Pol wr B N va a
  b : Pol wr B (N + 1) vb b
  m : Pol wr B gm vm m
  u : Pol wr B gu vu u
  z6 : wr.heap[N + 1 + 1]? = some (.cells #[.int .i64 0, .slice none 0 0] 100 (0, 0))
  z7 : wr.heap[N + 1 + 1 + 1]? = some (.cells #[.int .i64 0, .slice none 0 0] 100 (0, 0))
  bel : Below w0.heap.size w0 wr
section
variable {w0 wr wr' : World} {B N gm gu : Nat} {va vb vm vu : Value} {a b m u : Po}
theorem ClS.below (h : ClS w0 wr B N gm gu va vb vm vu a b m u) (hb : Below wr.heap.size wr wr') : ClS w0 wr' B N gm gu va vb vm vu a b m u :=
  ⟨h.a.below hb, h.b.below hb, h.m.below hb, h.u.below hb, blk_below h.z6 hb, blk_below h.z7 hb, below_step h.bel hb⟩
theorem ClS.cells (h : ClS w0 wr B N gm gu va vb vm vu a b m u) : wr.cell? ⟨N, 0, none⟩ = some (.int .i64 a.1) ∧ wr.cell? ⟨N, 1, none⟩ = some va ∧ wr.cell? ⟨N + 1, 0, none⟩ = some (.int .i64 b.1) ∧ wr.cell? ⟨N + 1, 1, none⟩ = some vb ∧ wr.cell? ⟨gm, 0, none⟩ = some (.int .i64 m.1) ∧ wr.cell? ⟨gm, 1, none⟩ = some vm ∧ wr.cell? ⟨gu, 0, none⟩ = some (.int .i64 u.1) ∧ wr.cell? ⟨gu, 1, none⟩ = some vu :=
  ⟨h.a.c0, h.a.c1, h.b.c0, h.b.c1, h.m.c0, h.m.c1, h.u.c0, h.u.c1⟩
theorem ClS.fr (h : ClS w0 wr B N gm gu va vb vm vu a b m u) : wr.cell? ⟨N + 1 + 1, 0, none⟩ = some (.int .i64 0) ∧ wr.cell? ⟨N + 1 + 1, 1, none⟩ = some (.slice none 0 0) ∧ wr.frozen? ⟨N + 1 + 1, 0, none⟩ = false ∧ wr.frozen? ⟨N + 1 + 1, 1, none⟩ = false :=
  ⟨(blk_cell h.z6 0).trans rfl, (blk_cell h.z6 1).trans rfl, blk_frozen h.z6 0, blk_frozen h.z6 1⟩
theorem ClS.start (w : World) (hB : B ≤ w.heap.size) (ha : Rw w B va a.2) (hb : Rw w B vb b.2) (hm : Pol w B gm vm m) (hu : Pol w B gu vu u) :
  ClS w ((((w.alloc (.cells #[.int .i64 a.1, va] 100)).alloc (.cells #[.int .i64 b.1, vb] 100)).alloc (.cells #[.int .i64 0, .slice none 0 0] 100)).alloc (.cells #[.int .i64 0, .slice none 0 0] 100)) B w.heap.size gm gu va vb vm vu a b m u := by
 have hbl : Below w.heap.size w ((((w.alloc (.cells #[.int .i64 a.1, va] 100)).alloc (.cells #[.int .i64 b.1, vb] 100)).alloc (.cells #[.int .i64 0, .slice none 0 0] 100)).alloc (.cells #[.int .i64 0, .slice none 0 0] 100)) := by repeat (first | exact Below.refl _ _ | apply below_alloc)
 refine ⟨⟨blk_alloc (blk_alloc (blk_alloc (heap_alloc_new _ _) _) _) _, Kd.R_below ha hbl⟩, ⟨?_, Kd.R_below hb hbl⟩, hm.below hbl, hu.below hbl, ?_, ?_, hbl⟩
 ·rw [← size_alloc w (.cells #[.int .i64 a.1, va] 100)]
  exact blk_alloc (blk_alloc (heap_alloc_new _ _) _) _
 ·rw [← size_alloc w (.cells #[.int .i64 a.1, va] 100), ← size_alloc _ (.cells #[.int .i64 b.1, vb] 100)]
  exact blk_alloc (heap_alloc_new _ _) _
 ·rw [← size_alloc w (.cells #[.int .i64 a.1, va] 100), ← size_alloc _ (.cells #[.int .i64 b.1, vb] 100), ← size_alloc _ (.cells #[.int .i64 0, .slice none 0 0] 100)]
  exact heap_alloc_new _ _
/-- The first result is stored. -/
structure ClP (w0 wr : World) (B N gm gu : Nat) (va vb vm vu : Value) (a b m u : Po) (v6 : Value) (x : Po) : Prop where
  a : Pol wr B N va a
  b : Pol wr B (N + 1) vb b
  m : Pol wr B gm vm m
  u : Pol wr B gu vu u
  z6 : Pol wr B (N + 1 + 1) v6 x
  z7 : wr.heap[N + 1 + 1 + 1]? = some (.cells #[.int .i64 0, .slice none 0 0] 100 (0, 0))
  bel : Below w0.heap.size w0 wr
theorem ClS.put {v6 : Value} {x : Po} (h : ClS w0 wr B N gm gu va vb vm vu a b m u) (hm : gm < N) (hu : gu < N) (hN : w0.heap.size = N) (hx : Rw wr B v6 x.2) : ClP w0 ((wr.setCell ⟨N + 1 + 1, 0, none⟩ (.int .i64 x.1)).setCell ⟨N + 1 + 1, 1, none⟩ v6) B N gm gu va vb vm vu a b m u v6 x := by
 have k1 := blk_set h.z6 0 (.int .i64 x.1)
 refine ⟨(h.a.off (by omega) h.z6 0 _).off (by omega) k1 1 _, (h.b.off (by omega) h.z6 0 _).off (by omega) k1 1 _, (h.m.off (by omega) h.z6 0 _).off (by omega) k1 1 _, (h.u.off (by omega) h.z6 0 _).off (by omega) k1 1 _, ⟨blk_set k1 1 _, (hx.off h.z6 0 _).off k1 1 _⟩,
  blk_far (blk_far h.z7 (by show N + 1 + 1 + 1 ≠ N + 1 + 1; omega) _) (by show N + 1 + 1 + 1 ≠ N + 1 + 1; omega) _, below_set (below_set h.bel (by show _ ≤ N + 1 + 1; omega)) (by show _ ≤ N + 1 + 1; omega)⟩
theorem ClP.cells {v6 : Value} {x : Po} (h : ClP w0 wr B N gm gu va vb vm vu a b m u v6 x) : wr.cell? ⟨N, 0, none⟩ = some (.int .i64 a.1) ∧ wr.cell? ⟨N, 1, none⟩ = some va ∧ wr.cell? ⟨N + 1, 0, none⟩ = some (.int .i64 b.1) ∧ wr.cell? ⟨N + 1, 1, none⟩ = some vb ∧ wr.cell? ⟨gm, 0, none⟩ = some (.int .i64 m.1) ∧ wr.cell? ⟨gm, 1, none⟩ = some vm ∧ wr.cell? ⟨gu, 0, none⟩ = some (.int .i64 u.1) ∧ wr.cell? ⟨gu, 1, none⟩ = some vu :=
  ⟨h.a.c0, h.a.c1, h.b.c0, h.b.c1, h.m.c0, h.m.c1, h.u.c0, h.u.c1⟩
theorem ClP.fr {v6 : Value} {x : Po} (h : ClP w0 wr B N gm gu va vb vm vu a b m u v6 x) : wr.cell? ⟨N + 1 + 1 + 1, 0, none⟩ = some (.int .i64 0) ∧ wr.cell? ⟨N + 1 + 1 + 1, 1, none⟩ = some (.slice none 0 0) ∧ wr.frozen? ⟨N + 1 + 1 + 1, 0, none⟩ = false ∧ wr.frozen? ⟨N + 1 + 1 + 1, 1, none⟩ = false :=
  ⟨(blk_cell h.z7 0).trans rfl, (blk_cell h.z7 1).trans rfl, blk_frozen h.z7 0, blk_frozen h.z7 1⟩
/-- Both are. -/
theorem ClP.put {v6 v7 : Value} {x y : Po} (h : ClP w0 wr B N gm gu va vb vm vu a b m u v6 x) (hN : w0.heap.size = N) (hy : Rw wr B v7 y.2) :
  Pol ((wr.setCell ⟨N + 1 + 1 + 1, 0, none⟩ (.int .i64 y.1)).setCell ⟨N + 1 + 1 + 1, 1, none⟩ v7) B (N + 1 + 1) v6 x ∧ Pol ((wr.setCell ⟨N + 1 + 1 + 1, 0, none⟩ (.int .i64 y.1)).setCell ⟨N + 1 + 1 + 1, 1, none⟩ v7) B (N + 1 + 1 + 1) v7 y ∧ Below w0.heap.size w0 ((wr.setCell ⟨N + 1 + 1 + 1, 0, none⟩ (.int .i64 y.1)).setCell ⟨N + 1 + 1 + 1, 1, none⟩ v7) := by
 have k1 := blk_set h.z7 0 (.int .i64 y.1)
 exact ⟨(h.z6.off (by omega) h.z7 0 _).off (by omega) k1 1 _, ⟨blk_set k1 1 _, (hy.off h.z7 0 _).off k1 1 _⟩, below_set (below_set h.bel (by show _ ≤ N + 1 + 1 + 1; omega)) (by show _ ≤ N + 1 + 1 + 1; omega)⟩
end
theorem Pol.lt {w : World} {B g : Nat} {v : Value} {p : Po} (h : Pol w B g v p) : g < w.heap.size := blk_lt h.blk
set_option maxRecDepth 100000 in
set_option maxHeartbeats 4000000 in
theorem f101_any {B gm gu : Nat} {R : Int} {a b m u : Po} {va vb vm vu : Value} (w : World) (hB : B ≤ w.heap.size) (ha : Rw w B va a.2) (hb : Rw w B vb b.2) (hm : Pol w B gm vm m) (hu : Pol w B gu vu u) (ra : Rg R a) (rb : Rg R b) (rm : Rg 1 m) (ru : Rg 1 u) (hR0 : 0 ≤ R) (hR : R ≤ 10000) :
  Calls Try.prog 101 #[.agg #[.int .i64 a.1, va], .agg #[.int .i64 b.1, vb], .pointer (some ⟨gm, 0, none⟩), .pointer (some ⟨gu, 0, none⟩)] w fun e w' => TwoR w w' B (plusP (timesP a m) b) (timesP a u) e := by
 have HS := Aside0.mk (ClS.start w hB ha hb hm hu)
 have HM := Aside0.mk hm.lt
 have HU := Aside0.mk hu.lt
 have HB := Aside0.mk hB
 have HA := Aside0.mk ra
 have HBB := Aside0.mk rb
 have RM := Aside0.mk rm
 have RU := Aside0.mk ru
 clear hm hu ha hb hB ra rb rm ru
 obtain ⟨W0, hW0⟩ : ∃ W, ((((w.alloc (.cells #[.int .i64 a.1, va] 100)).alloc (.cells #[.int .i64 b.1, vb] 100)).alloc (.cells #[.int .i64 0, .slice none 0 0] 100)).alloc (.cells #[.int .i64 0, .slice none 0 0] 100)) = W := ⟨_, rfl⟩
 have HS := Aside0.mk (hW0 ▸ HS.out)
 have HW0 := Aside0.mk hW0
 clear hW0
 obtain ⟨N, hN⟩ : ∃ N, w.heap.size = N := ⟨_, rfl⟩
 rw [hN] at HS HM HU HB
 have HN := Aside0.mk hN
 clear hN
 go_enter Try.func101, Try.ntmps101
 go_upto_region 1 with (fail)
 rw [HW0.out, HN.out]
 have hSt := HS.out.below (wr' := W0.drew) (below_drew1 (Below.refl _ _))
 have hS := hSt.cells
 have HT := Aside0.mk hSt
 have h69 := f69_any W0.drew (by have := hSt.bel.size; rw [HN.out] at this; have := HB.out; omega) hSt.a.row hSt.m.row HA.out RM.out (by omega) (by omega)
 clear hSt
 refine wp_region_T 9 (fun w' => w'.cell? ⟨N, 0, none⟩ = some (.int .i64 a.1) ∧ w'.cell? ⟨N, 1, none⟩ = some va ∧ w'.cell? ⟨N + 1, 0, none⟩ = some (.int .i64 b.1) ∧ w'.cell? ⟨N + 1, 1, none⟩ = some vb ∧ w'.cell? ⟨gm, 0, none⟩ = some (.int .i64 m.1) ∧ w'.cell? ⟨gm, 1, none⟩ = some vm ∧ w'.cell? ⟨gu, 0, none⟩ = some (.int .i64 u.1) ∧ w'.cell? ⟨gu, 1, none⟩ = some vu) (by kernel_rfl) ?_
 refine tk 0 ?_
 refine tk 1 ?_
 refine tk 3 ?_
 refine tk 5 ?_
 refine tk 6 ?_
 refine wpAnyT_one (i := 2) (by kernel_rfl) rfl (fun K hK => ?_)
 go_wp2_with (go_at_call 69; (with_reducible refine h69.mono ?_); rintro e w5 ⟨z5, rfl, hz5, hb5⟩; have HT5 := Aside0.mk (HT.out.below hb5); have HZ5 := Aside0.mk hz5; clear hb5 hz5)
 refine hK _ _ (fun _ => ?_) ?_
 ·exact HT5.out.cells
 clear hK K
 (try simp only [Act.put, List.setIfInBounds_toArray, List.set_cons_zero, List.set_cons_succ])
 have h68 := f68_any w5 (by have := HT5.out.bel.size; rw [HN.out] at this; have := HB.out; omega) HZ5.out HT5.out.b.row (timesP_rg HA.out RM.out hR0 (by omega)) (HBB.out.mono (by omega)) (by omega)
 clear h69 hS
 refine wpAnyT_one (i := 4) (by kernel_rfl) rfl (fun K hK => ?_)
 go_wp2_with (go_at_call 68; (with_reducible refine h68.mono ?_); rintro e w6 ⟨z6, rfl, hz6, hb6⟩; have HT6 := Aside0.mk (HT5.out.below hb6); have HZ6 := Aside0.mk hz6; clear hb6 hz6)
 refine hK _ _ (fun _ => ?_) ?_
 ·exact HT6.out.cells
 clear hK K
 (try simp only [Act.put, List.setIfInBounds_toArray, List.set_cons_zero, List.set_cons_succ])
 have h69b := f69_any w6 (by have := HT6.out.bel.size; rw [HN.out] at this; have := HB.out; omega) HT6.out.a.row HT6.out.u.row HA.out RU.out (by omega) (by omega)
 clear h68
 refine wpAnyT_one (i := 7) (by kernel_rfl) rfl (fun K hK => ?_)
 go_wp2_with (go_at_call 69; (with_reducible refine h69b.mono ?_); rintro e w7 ⟨z7, rfl, hz7, hb7⟩; have HT7 := Aside0.mk (HT6.out.below hb7); have HZ67 := Aside0.mk (Kd.R_below HZ6.out hb7); have HZ7 := Aside0.mk hz7; clear hb7 hz7)
 refine hK _ _ (fun _ => ?_) ?_
 ·exact HT7.out.cells
 clear hK K
 (try simp only [Act.put, List.setIfInBounds_toArray, List.set_cons_zero, List.set_cons_succ])
 clear h69b
 obtain ⟨y1, y2, y3, y4⟩ := HT7.out.fr
 obtain ⟨x, hx⟩ : ∃ x, plusP (timesP a m) b = x := ⟨_, rfl⟩
 obtain ⟨y, hy⟩ : ∃ y, timesP a u = y := ⟨_, rfl⟩
 rw [hx] at HZ67 ⊢
 rw [hy] at HZ7 ⊢
 have HX := Aside0.mk hx
 have HY := Aside0.mk hy
 clear hx hy
 obtain ⟨A6, c6, rfl⟩ := Kd.R_slice HZ67.out
 obtain ⟨A7, c7, rfl⟩ := Kd.R_slice HZ7.out
 refine wpAnyT_one (i := 8) (by kernel_rfl) rfl (fun K hK => ?_)
 go_wp2
 have HP := Aside0.mk (HT7.out.put HM.out HU.out HN.out HZ67.out)
 have HZ8 : Aside0 (Rw ((w7.setCell ⟨N + 1 + 1, 0, none⟩ (.int .i64 x.1)).setCell ⟨N + 1 + 1, 1, none⟩ (.slice A6 x.2.length c6)) B (.slice A7 y.2.length c7) y.2) := ⟨Rw.off (Rw.off HZ7.out HT7.out.z6 0 _) (blk_set HT7.out.z6 0 _) 1 _⟩
 refine hK _ _ (fun _ => ?_) ?_
 ·exact HP.out.cells
 clear hK K
 (try simp only [Act.put, List.setIfInBounds_toArray, List.set_cons_zero, List.set_cons_succ])
 clear y1 y2 y3 y4
 generalize (w7.setCell ⟨N + 1 + 1, 0, none⟩ (.int .i64 x.1)).setCell ⟨N + 1 + 1, 1, none⟩ (.slice A6 x.2.length c6) = w8 at *
 obtain ⟨y1, y2, y3, y4⟩ := HP.out.fr
 refine wpAnyT_one (i := 9) (by kernel_rfl) rfl (fun K hK => ?_)
 go_wp2
 refine hK _ _ (fun h => absurd rfl h) ?_
 clear hK K
 (try simp only [Act.put, List.setIfInBounds_toArray, List.set_cons_zero, List.set_cons_succ])
 refine wpAnyT_done (by kernel_rfl) ?_ _
 go_wp2
 obtain ⟨p6, p7, hbF⟩ := HP.out.put HN.out HZ8.out
 generalize (w8.setCell ⟨N + 1 + 1 + 1, 0, none⟩ (.int .i64 y.1)).setCell ⟨N + 1 + 1 + 1, 1, none⟩ (.slice A7 y.2.length c7) = F at *
 have q1 := p6.c0
 have q2 := p6.c1
 have q3 := p7.c0
 have q4 := p7.c1
 refine bodyPost_ret (v := .tuple #[.agg #[.int .i64 x.1, .slice A6 x.2.length c6], .agg #[.int .i64 y.1, .slice A7 y.2.length c7]]) (by simp [results, Try.results101, go_sem, q1, q2, q3, q4]) rfl ?_
 rw [HX.out, HY.out]
 exact ⟨_, _, rfl, p6.row, p7.row, hbF⟩
set_option maxRecDepth 100000 in
set_option maxHeartbeats 4000000 in
theorem f102_any {B gm gu : Nat} {R : Int} {a b m u : Po} {va vb vm vu : Value} (w : World) (hB : B ≤ w.heap.size) (ha : Rw w B va a.2) (hb : Rw w B vb b.2) (hm : Pol w B gm vm m) (hu : Pol w B gu vu u) (ra : Rg R a) (rb : Rg R b) (rm : Rg 1 m) (ru : Rg 1 u) (hR0 : 0 ≤ R) (hR : R ≤ 10000) :
  Calls Try.prog 102 #[.agg #[.int .i64 a.1, va], .agg #[.int .i64 b.1, vb], .pointer (some ⟨gm, 0, none⟩), .pointer (some ⟨gu, 0, none⟩)] w fun e w' => TwoR w w' B (timesP b m) (plusP a (timesP b u)) e := by
 have HS := Aside0.mk (ClS.start w hB ha hb hm hu)
 have HM := Aside0.mk hm.lt
 have HU := Aside0.mk hu.lt
 have HB := Aside0.mk hB
 have HA := Aside0.mk ra
 have HBB := Aside0.mk rb
 have RM := Aside0.mk rm
 have RU := Aside0.mk ru
 clear hm hu ha hb hB ra rb rm ru
 obtain ⟨W0, hW0⟩ : ∃ W, ((((w.alloc (.cells #[.int .i64 a.1, va] 100)).alloc (.cells #[.int .i64 b.1, vb] 100)).alloc (.cells #[.int .i64 0, .slice none 0 0] 100)).alloc (.cells #[.int .i64 0, .slice none 0 0] 100)) = W := ⟨_, rfl⟩
 have HS := Aside0.mk (hW0 ▸ HS.out)
 have HW0 := Aside0.mk hW0
 clear hW0
 obtain ⟨N, hN⟩ : ∃ N, w.heap.size = N := ⟨_, rfl⟩
 rw [hN] at HS HM HU HB
 have HN := Aside0.mk hN
 clear hN
 go_enter Try.func102, Try.ntmps102
 go_upto_region 1 with (fail)
 rw [HW0.out, HN.out]
 have hSt := HS.out.below (wr' := W0.drew) (below_drew1 (Below.refl _ _))
 have hS := hSt.cells
 have HT := Aside0.mk hSt
 have h69 := f69_any W0.drew (by have := hSt.bel.size; rw [HN.out] at this; have := HB.out; omega) hSt.b.row hSt.m.row HBB.out RM.out (by omega) (by omega)
 clear hSt
 refine wp_region_T 9 (fun w' => w'.cell? ⟨N, 0, none⟩ = some (.int .i64 a.1) ∧ w'.cell? ⟨N, 1, none⟩ = some va ∧ w'.cell? ⟨N + 1, 0, none⟩ = some (.int .i64 b.1) ∧ w'.cell? ⟨N + 1, 1, none⟩ = some vb ∧ w'.cell? ⟨gm, 0, none⟩ = some (.int .i64 m.1) ∧ w'.cell? ⟨gm, 1, none⟩ = some vm ∧ w'.cell? ⟨gu, 0, none⟩ = some (.int .i64 u.1) ∧ w'.cell? ⟨gu, 1, none⟩ = some vu) (by kernel_rfl) ?_
 refine tk 0 ?_
 refine tk 1 ?_
 refine tk 3 ?_
 refine tk 4 ?_
 refine tk 5 ?_
 refine wpAnyT_one (i := 2) (by kernel_rfl) rfl (fun K hK => ?_)
 go_wp2_with (go_at_call 69; (with_reducible refine h69.mono ?_); rintro e w5 ⟨z5, rfl, hz5, hb5⟩; have HT5 := Aside0.mk (HT.out.below hb5); have HZ5 := Aside0.mk hz5; clear hb5 hz5)
 refine hK _ _ (fun _ => ?_) ?_
 ·exact HT5.out.cells
 clear hK K
 (try simp only [Act.put, List.setIfInBounds_toArray, List.set_cons_zero, List.set_cons_succ])
 have h69b := f69_any w5 (by have := HT5.out.bel.size; rw [HN.out] at this; have := HB.out; omega) HT5.out.b.row HT5.out.u.row HBB.out RU.out (by omega) (by omega)
 clear h69 hS
 refine wpAnyT_one (i := 6) (by kernel_rfl) rfl (fun K hK => ?_)
 go_wp2_with (go_at_call 69; (with_reducible refine h69b.mono ?_); rintro e w6 ⟨z6, rfl, hz6, hb6⟩; have HT6 := Aside0.mk (HT5.out.below hb6); have HZ6 := Aside0.mk hz6; have HZ56 := Aside0.mk (Kd.R_below HZ5.out hb6); clear hb6 hz6)
 refine hK _ _ (fun _ => ?_) ?_
 ·exact HT6.out.cells
 clear hK K
 (try simp only [Act.put, List.setIfInBounds_toArray, List.set_cons_zero, List.set_cons_succ])
 have h68 := f68_any w6 (by have := HT6.out.bel.size; rw [HN.out] at this; have := HB.out; omega) HT6.out.a.row HZ6.out (HA.out.mono (by omega)) (timesP_rg HBB.out RU.out hR0 (by omega)) (by omega)
 clear h69b
 refine wpAnyT_one (i := 7) (by kernel_rfl) rfl (fun K hK => ?_)
 go_wp2_with (go_at_call 68; (with_reducible refine h68.mono ?_); rintro e w7 ⟨z7, rfl, hz7, hb7⟩; have HT7 := Aside0.mk (HT6.out.below hb7); have HZ67 := Aside0.mk (Kd.R_below HZ56.out hb7); have HZ7 := Aside0.mk hz7; clear hb7 hz7)
 refine hK _ _ (fun _ => ?_) ?_
 ·exact HT7.out.cells
 clear hK K
 (try simp only [Act.put, List.setIfInBounds_toArray, List.set_cons_zero, List.set_cons_succ])
 clear h68
 obtain ⟨y1, y2, y3, y4⟩ := HT7.out.fr
 obtain ⟨x, hx⟩ : ∃ x, timesP b m = x := ⟨_, rfl⟩
 obtain ⟨y, hy⟩ : ∃ y, plusP a (timesP b u) = y := ⟨_, rfl⟩
 rw [hx] at HZ67 ⊢
 rw [hy] at HZ7 ⊢
 have HX := Aside0.mk hx
 have HY := Aside0.mk hy
 clear hx hy
 obtain ⟨A6, c6, rfl⟩ := Kd.R_slice HZ67.out
 obtain ⟨A7, c7, rfl⟩ := Kd.R_slice HZ7.out
 refine wpAnyT_one (i := 8) (by kernel_rfl) rfl (fun K hK => ?_)
 go_wp2
 have HP := Aside0.mk (HT7.out.put HM.out HU.out HN.out HZ67.out)
 have HZ8 : Aside0 (Rw ((w7.setCell ⟨N + 1 + 1, 0, none⟩ (.int .i64 x.1)).setCell ⟨N + 1 + 1, 1, none⟩ (.slice A6 x.2.length c6)) B (.slice A7 y.2.length c7) y.2) := ⟨Rw.off (Rw.off HZ7.out HT7.out.z6 0 _) (blk_set HT7.out.z6 0 _) 1 _⟩
 refine hK _ _ (fun _ => ?_) ?_
 ·exact HP.out.cells
 clear hK K
 (try simp only [Act.put, List.setIfInBounds_toArray, List.set_cons_zero, List.set_cons_succ])
 clear y1 y2 y3 y4
 generalize (w7.setCell ⟨N + 1 + 1, 0, none⟩ (.int .i64 x.1)).setCell ⟨N + 1 + 1, 1, none⟩ (.slice A6 x.2.length c6) = w8 at *
 obtain ⟨y1, y2, y3, y4⟩ := HP.out.fr
 refine wpAnyT_one (i := 9) (by kernel_rfl) rfl (fun K hK => ?_)
 go_wp2
 refine hK _ _ (fun h => absurd rfl h) ?_
 clear hK K
 (try simp only [Act.put, List.setIfInBounds_toArray, List.set_cons_zero, List.set_cons_succ])
 refine wpAnyT_done (by kernel_rfl) ?_ _
 go_wp2
 obtain ⟨p6, p7, hbF⟩ := HP.out.put HN.out HZ8.out
 generalize (w8.setCell ⟨N + 1 + 1 + 1, 0, none⟩ (.int .i64 y.1)).setCell ⟨N + 1 + 1 + 1, 1, none⟩ (.slice A7 y.2.length c7) = F at *
 have q1 := p6.c0
 have q2 := p6.c1
 have q3 := p7.c0
 have q4 := p7.c1
 refine bodyPost_ret (v := .tuple #[.agg #[.int .i64 x.1, .slice A6 x.2.length c6], .agg #[.int .i64 y.1, .slice A7 y.2.length c7]]) (by simp [results, Try.results102, go_sem, q1, q2, q3, q4]) rfl ?_
 rw [HX.out, HY.out]
 exact ⟨_, _, rfl, p6.row, p7.row, hbF⟩
end Go.Proofs.Ytdldfdcedjmneaa.Own
namespace Go.Proofs.Ytdldfdcedjmneaa.Own
open Go.RowKit Go.Proofs.YtdldfdcedjmneaaW.PrintWords Go.Proofs.YtdldfdcedjmneaaW.PrintLast Go.Proofs.YtdldfdcedjmneaaW.PrintMore Go.Proofs.Ytdldfdcedjmneaa.Pb Go.Proofs.Ytdldfdcedjmneaa.Br
set_option linter.unusedVariables false
set_option linter.unusedSimpArgs false
/-- An entry: a polynomial. -/
def E2 : Kd Po := Kd.pair (Kd.int .i64) (Kd.slice 3 (Kd.int .i64))
theorem E2_sz : E2.sz = 2 := rfl
theorem E2_M {w : World} {B : Nat} {ok : Nat → Prop} {p : Po} {cs : List Value} : E2.M w B ok p cs ↔ ∃ v, cs = [.int .i64 p.1, v] ∧ Kd.R (Kd.int .i64) 3 w B ok v p.2 := by
 constructor
 ·rintro ⟨c0, c1, rfl, h0, v, rfl, h1⟩
  have h0' : c0 = [.int .i64 p.1] := h0
  exact ⟨v, by rw [h0']; rfl, h1⟩
 ·rintro ⟨v, rfl, h1⟩
  exact ⟨[.int .i64 p.1], [v], rfl, rfl, v, rfl, h1⟩
section
variable {w w' : World} {B g m c k t e : Nat} {v : Value} {x : Po} {l : List Po} {cs : Array Value}
/-- Element j of a row of polynomials. -/
theorem row_elem (h : E2.R e w B (fun _ => True) (.slice (some ⟨g, 0, none⟩) m c) l) (j : Nat) (hj : j < m) :
  ∃ (A : Option Addr) (d : Nat), w.cell? ⟨g, j * 2, none⟩ = some (.int .i64 (l.getD j (0, [])).1) ∧ w.cell? ⟨g, j * 2 + 1, none⟩ = some (.slice A (l.getD j (0, [])).2.length d) ∧ Rw w B (.slice A (l.getD j (0, [])).2.length d) (l.getD j (0, [])).2 ∧ w.frozen? ⟨g, j * 2, none⟩ = false ∧ w.frozen? ⟨g, j * 2 + 1, none⟩ = false := by
 obtain ⟨c1, h1, h2, h3, h4⟩ := Kd.R_elem h (0, []) (j : Int) (by omega) (by omega)
 rw [Int.toNat_natCast, E2_sz] at h3 h4
 rw [Int.toNat_natCast] at h2
 obtain ⟨u, rfl, hu⟩ := E2_M.1 h2
 obtain ⟨A, d, rfl⟩ := Kd.R_slice hu
 exact ⟨A, d, h3 0 _ rfl, h3 1 _ rfl, Kd.R_mono hu (fun _ _ => trivial), h4 0, h4 1⟩
theorem Rw.ne (h : Rw w B v x.2) (hb : w.heap[g]? = some (.cells cs t (0, 0))) (ht : t ≠ 3) : Kd.R (Kd.int .i64) 3 w B (fun k => True ∧ k ≠ g) v x.2 :=
  Kd.R_types h hb (fun q hq => by have : q = 3 := (by simpa [Kd.int, Kd.scalar] using hq); omega)
/-- Element j is written. -/
theorem row_put (h : E2.R e w B (fun _ => True) (.slice (some ⟨g, 0, none⟩) m c) l) (he : e ≠ 3) (j : Nat) (hj : j < m) (hx : Rw w B v x.2) :
  E2.R e ((w.setCell ⟨g, j * 2, none⟩ (.int .i64 x.1)).setCell ⟨g, j * 2 + 1, none⟩ v) B (fun _ => True) (.slice (some ⟨g, 0, none⟩) m c) (l.set j x) ∧ Kept w ((w.setCell ⟨g, j * 2, none⟩ (.int .i64 x.1)).setCell ⟨g, j * 2 + 1, none⟩ v) (fun k => k = g) := by
 obtain ⟨c1, h1, h2, h3, h4⟩ := Kd.R_elem h (0, []) (j : Int) (by omega) (by omega)
 obtain ⟨hm, _⟩ := Kd.R_reads' h
 obtain ⟨g2, c2, hv, _, _, cells, hc⟩ := Kd.R_form h (by omega)
 injection hv with ha
 injection ha with ha
 injection ha with ha
 subst ha
 have h5 := Kd.R_seg h (j : Int) (by omega) (by omega) (c := c1) (seg := [.int .i64 x.1, v]) (j := 0) (x' := x) (okp := fun k => True ∧ k ≠ g) h1 h3 (Nat.le_refl 2) (by
  have hl : c1.length = 2 := h1
  show E2.M w B _ x (c1.take 0 ++ [.int .i64 x.1, v] ++ c1.drop (0 + 2))
  rw [List.drop_eq_nil_of_le (by omega)]
  exact E2_M.2 ⟨v, rfl, hx.ne hc he⟩) (fun k hk => hk)
 rw [Int.toNat_natCast, E2_sz, Nat.add_zero] at h5
 exact ⟨h5.1, Kept.setCell (S := fun k => k = g) (Kept.setCell (S := fun k => k = g) (Kept.refl w _) (p := ⟨g, j * 2, none⟩) (.inl rfl) _) (p := ⟨g, j * 2 + 1, none⟩) (.inl rfl) _⟩
theorem R_off {α : Type} {d : Kd α} {v : Value} {xs : List α} (h : d.R e w B (fun _ => True) v xs) (hv : v.ownBlock ≠ some g) (hb : w.heap[g]? = some (.cells cs t (0, 0))) (ht : ∀ q, q ∈ d.E → q ≠ t) : d.R e w B (fun k => k ≠ g) v xs := by
 obtain ⟨h0, inner, ho, hr⟩ := h
 refine ⟨fun k hk e => hv (by rw [← e]; exact hk), inner, ho, hr.imp_ (fun _ _ hp => d.M_mono (fun k hk => ⟨?_, hk.1.2⟩) (d.M_bound hp))⟩
 obtain ⟨_, _, _, q, hq, cells, hc⟩ := hk
 rintro rfl
 rw [hc] at hb
 injection hb with hb
 injection hb with _ hb
 exact ht q hq hb
end
/-- A matrix: the row of its rows' headers, and the rows. -/
structure Mat (B n : Nat) (w : World) (v : Value) (hs : List (Nat × Nat)) (L : List (List Po)) : Prop where
  top : (hd n).R 98 w B (fun _ => True) v hs
  len : hs.length = L.length
  row : ∀ i (h : i < hs.length), E2.R 102 w B (fun _ => True) (encH n hs[i]) (L.getD i [])
  nd : (hs.map (·.1)).Nodup
section
variable {B n : Nat} {w w' : World} {v : Value} {hs : List (Nat × Nat)} {L : List (List Po)}
theorem Mat.below (h : Mat B n w v hs L) (hb : Below w.heap.size w w') : Mat B n w' v hs L := ⟨Kd.R_below h.top hb, h.len, fun i hi => Kd.R_below (h.row i hi) hb, h.nd⟩
theorem Mat.inj (h : Mat B n w v hs L) {i j : Nat} (hi : i < hs.length) (hj : j < hs.length) (e : hs[i].1 = hs[j].1) : i = j := by
 have h1 := h.nd
 unfold List.Nodup at h1
 rw [List.pairwise_iff_getElem] at h1
 rcases Nat.lt_trichotomy i j with h2 | h2 | h2
 ·exact absurd (by rw [List.getElem_map, List.getElem_map]; exact e) (h1 i j (by simpa using hi) (by simpa using hj) h2)
 ·exact h2
 ·exact absurd (by rw [List.getElem_map, List.getElem_map]; exact e.symm) (h1 j i (by simpa using hj) (by simpa using hi) h2)
theorem Mat.rlen (h : Mat B n w v hs L) {i : Nat} (hi : i < hs.length) : (L.getD i []).length = n := ((Kd.R_reads' (h.row i hi)).1).symm
/-- A row's block, and what it is read by. -/
theorem Mat.blk (h : Mat B n w v hs L) (hn : 0 < n) {i : Nat} (hi : i < hs.length) : ∃ cells, w.heap[hs[i].1]? = some (.cells cells 102 (0, 0)) := by
 obtain ⟨g, c, hv, _, _, cells, hc⟩ := Kd.R_form (h.row i hi) (by rw [h.rlen hi]; exact hn)
 injection hv with ha
 injection ha with ha
 injection ha with ha
 rw [← ha] at hc
 exact ⟨cells, hc⟩
theorem Mat.base (h : Mat B n w v hs L) {i : Nat} (hi : i < hs.length) : B ≤ hs[i].1 := Kd.R_base (h.row i hi) _ rfl
/-- A header. -/
theorem Mat.head {g c m : Nat} (h : Mat B n w (.slice (some ⟨g, 0, none⟩) m c) hs L) {i : Nat} (hi : i < hs.length) : w.cell? ⟨g, i, none⟩ = some (encH n hs[i]) := by
 have hm := (Kd.R_reads' h.top).1
 have k1 := (Kd.R_celln (0, 0) h.top (i : Int) (by omega) (by omega)).1
 have r1 : rdOf (0, 0) hs (i : Int) = hs[i] := by unfold rdOf; rw [Int.toNat_natCast, List.getD_eq_getElem?_getD, List.getElem?_eq_getElem hi]; rfl
 rw [r1, Int.toNat_natCast] at k1
 exact k1
/-- What was written is one row. -/
theorem Mat.put {S : Nat → Prop} (h : Mat B n w v hs L) (hn : 0 < n) {i : Nat} (hi : i < hs.length) (hk : Kept w w' (fun k => k = hs[i].1)) {r : List Po} (hr : E2.R 102 w' B (fun _ => True) (encH n hs[i]) r) : Mat B n w' v hs (L.set i r) := by
 obtain ⟨cells, hc⟩ := h.blk hn hi
 refine ⟨?_, by rw [List.length_set]; exact h.len, fun j hj => ?_, h.nd⟩
 ·refine Kd.R_mono (Kd.R_kept (R_off h.top (g := hs[i].1) (fun e => ?_) hc (by intro q hq; cases hq)) hk (fun k h1 h2 => h1 h2)) (fun _ _ => trivial)
  exact Kd.R_ne h.top hc (by decide) e.symm
 ·by_cases e : j = i
  ·subst e
   have : (L.set j r).getD j [] = r := by rw [List.getD_eq_getElem?_getD, List.getElem?_set_self (by rw [← h.len]; exact hj)]; rfl
   rw [this]
   exact hr
  ·have : (L.set i r).getD j [] = L.getD j [] := by rw [List.getD_eq_getElem?_getD, List.getElem?_set_ne (fun e2 => e e2.symm), ← List.getD_eq_getElem?_getD]
   rw [this]
   refine Kd.R_mono (Kd.R_kept (R_off (h.row j hj) (g := hs[i].1) (fun e2 => ?_) hc (fun q hq => ?_)) hk (fun k h1 h2 => h1 h2)) (fun _ _ => trivial)
   ·injection e2 with e2
    exact e (h.inj hj hi e2)
   ·have : q = 3 := (by simpa [E2, Kd.pair, Kd.slice, Kd.int, Kd.scalar] using hq)
    omega
end
theorem info102 : (Try.prog.info? 102).map (fun i => (i.zero, i.size, i.bytes)) = some (some (.agg #[.int .i64 0, .slice none 0 0]), 2, 32) := by kernel_rfl
theorem info98 : (Try.prog.info? 98).map (fun i => (i.zero, i.size, i.bytes)) = some (some (.slice none 0 0), 1, 24) := by kernel_rfl
/-- The identity. -/
def rowId (n i : Nat) : List Po := (List.range n).map fun j => if j = i then (0, [1]) else (0, [])
def oneM (n : Nat) : List (List Po) := (List.range n).map (rowId n)
end Go.Proofs.Ytdldfdcedjmneaa.Own
namespace Go.Proofs.Ytdldfdcedjmneaa.Own
open Go.RowKit Go.Proofs.YtdldfdcedjmneaaW.PrintWords Go.Proofs.YtdldfdcedjmneaaW.PrintLast Go.Proofs.YtdldfdcedjmneaaW.PrintMore Go.Proofs.Ytdldfdcedjmneaa.Pb Go.Proofs.Ytdldfdcedjmneaa.Br
set_option linter.unusedVariables false
set_option linter.unusedSimpArgs false
def encO (n : Nat) : Option (Nat × Nat) → Value
  | none => .slice none 0 0
  | some h => encH n h
def hdO (n : Nat) : Kd (Option (Nat × Nat)) := Kd.scalar (encO n) (fun x => by cases x <;> rfl)
/-- The first rows are there. -/
structure OneS (w0 wr : World) (n : Nat) (v : Value) (hs : List (Nat × Nat)) : Prop where
  top : (hdO n).R 98 wr w0.heap.size (fun _ => True) v (hs.map some ++ List.replicate (n - hs.length) none)
  row : ∀ i (h : i < hs.length), E2.R 102 wr w0.heap.size (fun _ => True) (encH n hs[i]) (rowId n i)
  nd : (hs.map (·.1)).Nodup
  le : hs.length ≤ n
  bel : Below w0.heap.size w0 wr
/-- One row more has its header; its entries are 0 still. -/
structure One2 (w0 wr : World) (n : Nat) (v : Value) (hs : List (Nat × Nat)) (h0 : Nat × Nat) (r : List Po) : Prop where
  top : (hdO n).R 98 wr w0.heap.size (fun _ => True) v ((hs ++ [h0]).map some ++ List.replicate (n - (hs ++ [h0]).length) none)
  row : ∀ i (h : i < hs.length), E2.R 102 wr w0.heap.size (fun _ => True) (encH n hs[i]) (rowId n i)
  new : E2.R 102 wr w0.heap.size (fun _ => True) (encH n h0) r
  nd : ((hs ++ [h0]).map (·.1)).Nodup
  le : (hs ++ [h0]).length ≤ n
  bel : Below w0.heap.size w0 wr
theorem E2_E : ∀ q, q ∈ (102 : Nat) :: E2.E → q = 102 ∨ q = 3 := fun q hq => by simpa [E2, Kd.pair, Kd.slice, Kd.int, Kd.scalar] using hq
theorem OneS.head {w0 wr w15 : World} {n g6 c6 g15 c15 i : Nat} {hs : List (Nat × Nat)} {r : List Po} (hi : i < n) (hl : hs.length = i) (h : OneS w0 wr n (.slice (some ⟨g6, 0, none⟩) n c6) hs) (hb : Below wr.heap.size wr w15) (hr : E2.R 102 w15 wr.heap.size (fun _ => True) (.slice (some ⟨g15, 0, none⟩) n c15) r) :
  One2 w0 (w15.setCell ⟨g6, i, none⟩ (.slice (some ⟨g15, 0, none⟩) n c15)) n (.slice (some ⟨g6, 0, none⟩) n c6) hs (g15, c15) r := by
 obtain ⟨g, c, hv, hge, _, cells, hc⟩ := Kd.R_form h.top (by simp; omega)
 injection hv with ha
 injection ha with ha
 injection ha with ha
 subst ha
 have hc' := blk_below hc hb
 have hgB : w0.heap.size ≤ g6 := Kd.R_base h.top _ rfl
 have h15 : wr.heap.size ≤ g15 := Kd.R_base hr _ rfl
 have hne : ∀ q, q ∈ (102 : Nat) :: E2.E → q ≠ 98 := fun q hq => by rcases E2_E q hq with rfl | rfl <;> decide
 have e : (hs.map some ++ List.replicate (n - hs.length) none).set i (some (g15, c15)) = (hs ++ [(g15, c15)]).map some ++ List.replicate (n - (hs ++ [(g15, c15)]).length) none := by
  rw [List.set_append_right _ _ (by rw [List.length_map, hl]; omega), List.length_map, hl, Nat.sub_self]
  obtain ⟨m, hm⟩ : ∃ m, n - i = m + 1 := ⟨n - i - 1, by omega⟩
  rw [hm, List.replicate_succ, List.set_cons_zero, List.map_append, List.append_assoc, List.length_append, hl]
  have : n - (i + [(g15, c15)].length) = m := by simp; omega
  rw [this]
  rfl
 refine ⟨?_, fun j hj => Kd.R_set (Kd.R_below (h.row j hj) hb) hc' hne i _, Kd.R_lower (Kd.R_set hr hc' hne i _) h.bel.size, ?_, by rw [List.length_append, hl]; simp; omega, below_set (below_step h.bel hb) (by show w0.heap.size ≤ g6; exact hgB)⟩
 ·rw [← e]
  have := Kd.R_putn (Kd.R_below h.top hb) (i : Int) (some (g15, c15))
  rw [Int.toNat_natCast] at this
  exact this
 ·rw [List.map_append, List.nodup_append]
  refine ⟨h.nd, by simp, fun a ha b hb2 => ?_⟩
  obtain ⟨p, hp, rfl⟩ := List.mem_map.1 ha
  obtain ⟨j, hj, rfl⟩ := List.getElem_of_mem hp
  have hb3 : b = g15 := by simpa using hb2
  have h7 : hs[j].1 < wr.heap.size := Kd.R_lt (h.row j hj) _ rfl
  rw [hb3]
  intro e
  omega
theorem One2.head {w0 wr : World} {n g6 c6 i : Nat} {hs : List (Nat × Nat)} {h0 : Nat × Nat} {r : List Po} (hi : i < n) (hl : hs.length = i) (h : One2 w0 wr n (.slice (some ⟨g6, 0, none⟩) n c6) hs h0 r) : wr.cell? ⟨g6, i, none⟩ = some (encH n h0) := by
 have k1 := (Kd.R_celln none h.top (i : Int) (by omega) (by omega)).1
 have r1 : rdOf none ((hs ++ [h0]).map some ++ List.replicate (n - (hs ++ [h0]).length) none) (i : Int) = some h0 := by
  unfold rdOf
  rw [Int.toNat_natCast, List.getD_eq_getElem?_getD, List.getElem?_append_left (by simp; omega), List.getElem?_map, List.getElem?_append_right (by omega), hl, Nat.sub_self]
  rfl
 rw [r1, Int.toNat_natCast] at k1
 exact k1
theorem One2.below {w0 wr wr' : World} {n : Nat} {v : Value} {hs : List (Nat × Nat)} {h0 : Nat × Nat} {r : List Po} (h : One2 w0 wr n v hs h0 r) (hb : Below wr.heap.size wr wr') : One2 w0 wr' n v hs h0 r :=
  ⟨Kd.R_below h.top hb, fun i hi => Kd.R_below (h.row i hi) hb, Kd.R_below h.new hb, h.nd, h.le, below_step h.bel hb⟩
theorem One2.put {w0 wr : World} {n : Nat} {v z : Value} {hs : List (Nat × Nat)} {h0 : Nat × Nat} {x : Po} (h : One2 w0 wr n v hs h0 (List.replicate n (0, []))) (hlt : hs.length < n) (hx : Rw wr w0.heap.size z x.2) (hx1 : x = (0, [1]) := by rfl) :
  OneS w0 ((wr.setCell ⟨h0.1, hs.length * 2, none⟩ (.int .i64 x.1)).setCell ⟨h0.1, hs.length * 2 + 1, none⟩ z) n v (hs ++ [h0]) := by
 obtain ⟨g, c, hv, hge, _, cells, hc⟩ := Kd.R_form h.new (by simp; omega)
 injection hv with ha
 injection ha with ha
 injection ha with ha
 subst ha
 obtain ⟨k1, k2⟩ := row_put (x := x) h.new (by decide) hs.length hlt hx
 have hB : w0.heap.size ≤ h0.1 := Kd.R_base h.new _ rfl
 have hsz : (hs ++ [h0]).length = hs.length + 1 := by simp
 refine ⟨Kd.R_set (Kd.R_set h.top hc (fun q hq => ?_) _ _) (blk_set hc _ _) (fun q hq => ?_) _ _, fun i hi => ?_, h.nd, h.le, below_set (below_set h.bel hB) hB⟩
 ·have : q = 98 := (by simpa [hdO, Kd.scalar] using hq)
  omega
 ·have : q = 98 := (by simpa [hdO, Kd.scalar] using hq)
  omega
 ·rw [hsz] at hi
  by_cases e : i < hs.length
  ·rw [List.getElem_append_left e]
   refine Kd.R_mono (Kd.R_kept (R_off (h.row i e) (g := h0.1) (fun e2 => ?_) hc (fun q hq => ?_)) k2 (fun k h1 h2 => h1 h2)) (fun _ _ => trivial)
   ·injection e2 with e2
    have h1 := h.nd
    rw [List.map_append, List.nodup_append] at h1
    exact h1.2.2 hs[i].1 (List.mem_map.2 ⟨hs[i], List.getElem_mem e, rfl⟩) h0.1 (by simp) e2
   ·have : q = 3 := (by simpa [E2, Kd.pair, Kd.slice, Kd.int, Kd.scalar] using hq)
    omega
  ·have e2 : i = hs.length := by omega
   subst e2
   rw [List.getElem_append_right (Nat.le_refl _)]
   have e3 : (List.replicate n ((0, []) : Po)).set hs.length x = rowId n hs.length := by
    refine List.ext_getElem (by simp [rowId]) fun j h1 h2 => ?_
    have e4 : (rowId n hs.length)[j] = if j = hs.length then (0, [1]) else (0, []) := by simp [rowId]
    rw [List.getElem_set, e4, List.getElem_replicate]
    by_cases e : hs.length = j
    ·rw [if_pos e, if_pos e.symm, hx1]
    ·rw [if_neg e, if_neg (fun h => e h.symm)]
   rw [← e3]
   simp only [Nat.sub_self, List.getElem_cons_zero]
   exact k1
theorem OneS.mat {w0 wr : World} {n : Nat} {v : Value} {hs : List (Nat × Nat)} (h : OneS w0 wr n v hs) (hl : hs.length = n) : Mat w0.heap.size n wr v hs (oneM n) := by
 refine ⟨?_, by unfold oneM; rw [List.length_map, List.length_range, hl], fun i hi => ?_, h.nd⟩
 ·have h1 := h.top
  rw [hl, Nat.sub_self, List.replicate_zero, List.append_nil] at h1
  have h2 := Kd.own_of_R h1
  refine Kd.R_of_own ?_ (fun _ _ => trivial)
  rw [List.length_map] at h2
  have e : encs (encO n) (hs.map some) = encs (encH n) hs := by simp [encs, encO]
  rw [e] at h2
  exact h2
 ·have : (oneM n).getD i [] = rowId n i := by unfold oneM; rw [List.getD_eq_getElem?_getD, List.getElem?_map, List.getElem?_range (by omega)]; rfl
  rw [this]
  exact h.row i hi
set_option maxRecDepth 100000 in
set_option maxHeartbeats 4000000 in
theorem f67_any (n : Nat) (hn1 : 1 ≤ n) (hn : n ≤ 1000) (w : World) :
  Calls Try.prog 67 #[.int .i64 n] w fun e w' => ∃ v hs, e = .returned v ∧ Mat w.heap.size n w' v hs (oneM n) ∧ hs.length = n ∧ Below w.heap.size w w' := by
 go_enter Try.func67, Try.ntmps67
 go_wp2_with (((with_reducible refine gate_dst (N := 6) rfl ?_); refine Kd.R_make (hdO n) w.heap.size 98 rfl (N := 6) rfl 96 _ _ rfl (n : Int) rfl rfl Try.underlying96 (.slice none 0 0) 24 info98 rfl Nat.one_pos (by omega) none (ok := fun _ => True) (okp := fun _ => True) rfl (fun _ hk => hk) trivial (by omega) (by omega) (Below.refl _ _) (Nat.le_refl _) ?_; intro v6 w6 ho hb hg_ hnew_; clear hg_ hnew_; rw [Int.toNat_natCast] at ho; obtain ⟨g6, c6, hv6, hz6⟩ := Kd.R_form ho (by rw [List.length_replicate]; omega); rw [List.length_replicate] at hv6; subst hv6; have HO := Aside0.mk ho; have HB6 := Aside0.mk hb; clear ho hb hz6))
 have HS0 : Aside0 (OneS w w6 n (.slice (some ⟨g6, 0, none⟩) n c6) []) := ⟨⟨HO.out, fun i hi => absurd hi (Nat.not_lt_zero _), List.nodup_nil, Nat.zero_le _, HB6.out⟩⟩
 clear HO HB6
 go_loopg [9] n (fun kq s9 wr => ∃ hs : List (Nat × Nat), s9 = .int .i64 (hs.length : Nat) ∧ n - hs.length ≤ kq ∧ Aside0 (OneS w wr n (.slice (some ⟨g6, 0, none⟩) n c6) hs))
 case atStart => exact ⟨[], rfl, by simp, HS0⟩
 case round =>
  clear HS0
  obtain ⟨hs, rfl, hgg, HS⟩ := hrel
  obtain ⟨i, hi⟩ : ∃ i, hs.length = i := ⟨_, rfl⟩
  rw [hi] at hgg ⊢
  have HI := Aside0.mk hi
  clear hi
  by_cases hlt : i < n
  ·have hlt2 : (i : Int) < (n : Int) := by omega
   have hi0 : (0 : Int) ≤ (i : Int) := by omega
   go_upto_region 6 with ((with_reducible refine gate_dst (N := 15) rfl ?_); refine Kd.R_make E2 wr.heap.size 102 rfl (N := 15) rfl 98 _ _ rfl (n : Int) rfl rfl Try.underlying98 (.agg #[.int .i64 0, .slice none 0 0]) 32 info102 rfl (by decide) (by omega) (0, []) (ok := fun _ => True) (okp := fun _ => True) ?hz (fun _ hk => hk) trivial (by omega) (by omega) (Below.refl _ _) (Nat.le_refl _) ?_; (case hz => exact E2_M.2 ⟨_, rfl, Kd.R_nil _ _ _ _ _⟩); intro v15 w15 ho hb hg_ hnew_; clear hg_ hnew_; rw [Int.toNat_natCast] at ho; obtain ⟨g15, c15, hv15, hz15⟩ := Kd.R_form ho (by rw [List.length_replicate]; omega); rw [List.length_replicate] at hv15; subst hv15; have HO := Aside0.mk ho; have HB15 := Aside0.mk hb; have ht15 := Kd.R_celln none (Kd.R_below HS.out.top hb) (i : Int) hi0 hlt2; rw [Int.toNat_natCast] at ht15; have hz : rdOf none (hs.map some ++ List.replicate (n - hs.length) none) (i : Int) = none := (by unfold rdOf; rw [Int.toNat_natCast, List.getD_eq_getElem?_getD, List.getElem?_append_right (by rw [List.length_map, HI.out]; omega), List.getElem?_replicate]; split <;> rfl); rw [hz] at ht15; obtain ⟨hc15, hf15⟩ := ht15; simp only [encO] at hc15; clear ho hb hz15 hz)
   have h2 := OneS.head hlt HI.out HS.out HB15.out HO.out
   clear hc15 hf15
   have H2 := Aside0.mk h2
   clear h2
   generalize w15.setCell ⟨g6, i, none⟩ (.slice (some ⟨g15, 0, none⟩) n c15) = W5 at *
   clear HO HB15
   have k1 := H2.out.head hlt HI.out
   unfold encH at k1
   dsimp only at k1
   obtain ⟨A1, d1, k2, k3, k4, k5, k6⟩ := row_elem (Kd.R_below H2.out.new (below_alloc (Below.refl _ _) (.cells #[.int .i64 1] 3))) i hlt
   clear k4
   go_wp2
   go_roundg (n - (i + 1))
   case measure => omega
   case rel =>
    refine ⟨hs ++ [(g15, c15)], by rw [List.length_append, HI.out]; simp, by rw [List.length_append, HI.out]; simp, ⟨?_⟩⟩
    have hx : Rw (W5.alloc (.cells #[.int .i64 1] 3)) w.heap.size (.slice (some ⟨W5.heap.size, 0, none⟩) 1 1) [1] := row_blk (l := [1]) (heap_alloc_new _ _) H2.out.bel.size (by simp) rfl
    have h3 := (H2.out.below (below_alloc (Below.refl _ _) (.cells #[.int .i64 1] 3))).put (x := (0, [1])) (by rw [HI.out]; exact hlt) hx
    rw [HI.out] at h3
    exact h3
  ·have hn' : hs.length = n := by have := HI.out; have := HS.out.le; omega
   have HN := Aside0.mk hn'
   clear hn'
   go_wp2
   go_ret
   exact ⟨_, hs, rfl, HS.out.mat HN.out, HN.out, HS.out.bel⟩
end Go.Proofs.Ytdldfdcedjmneaa.Own
namespace Go.Proofs.Ytdldfdcedjmneaa.Own
open Go.RowKit Go.Proofs.YtdldfdcedjmneaaW.PrintWords Go.Proofs.YtdldfdcedjmneaaW.PrintLast Go.Proofs.YtdldfdcedjmneaaW.PrintMore Go.Proofs.Ytdldfdcedjmneaa.Pb Go.Proofs.Ytdldfdcedjmneaa.Br
set_option linter.unusedVariables false
set_option linter.unusedSimpArgs false
def stepUp (q : Nat) (r : List Po) : List Po := (r.set q (plusP (timesP (r.getD q (0, [])) (0, [1, -1])) (r.getD (q + 1) (0, [])))).set (q + 1) (timesP (r.getD q (0, [])) (1, [1]))
def stepDn (q : Nat) (r : List Po) : List Po := (r.set q (timesP (r.getD (q + 1) (0, [])) (-1, [1]))).set (q + 1) (plusP (r.getD q (0, [])) (timesP (r.getD (q + 1) (0, [])) (-1, [-1, 1])))
def stepRow (k : Int) (r : List Po) : List Po := if 0 < k then stepUp (k.toNat - 1) r else stepDn ((-k).toNat - 1) r
def burauF (n : Nat) (xs : List Int) : List (List Po) := xs.foldl (fun L k => L.map (stepRow k)) (oneM n)
theorem stepRow_up (q : Nat) (r : List Po) : stepRow ((q : Int) + 1) r = stepUp q r := by unfold stepRow; rw [if_pos (by omega)]; rfl
theorem stepRow_dn (q : Nat) (r : List Po) : stepRow (-(q : Int) - 1) r = stepDn q r := by unfold stepRow; rw [if_neg (by omega)]; congr 1; omega
theorem burauF_snoc (n : Nat) (xs : List Int) (k : Int) : burauF n (xs ++ [k]) = (burauF n xs).map (stepRow k) := by unfold burauF; rw [List.foldl_append]; rfl
/-- All entries' powers are from -R to R. -/
def AllRg (R : Int) (L : List (List Po)) : Prop := ∀ r ∈ L, ∀ p ∈ r, Rg R p
def RowRg (R : Int) (r : List Po) : Prop := ∀ p ∈ r, Rg R p
theorem RowRg.at_ {R : Int} {r : List Po} (h : RowRg R r) (hR : 0 ≤ R) (j : Nat) : Rg R (r.getD j (0, [])) := by
 rw [List.getD_eq_getElem?_getD]
 by_cases hj : j < r.length
 ·rw [List.getElem?_eq_getElem hj]
  exact h _ (List.getElem_mem hj)
 ·rw [List.getElem?_eq_none (by omega)]
  exact Rg.nil hR
theorem RowRg.set {R : Int} {r : List Po} (h : RowRg R r) {x : Po} (hx : Rg R x) (j : Nat) : RowRg R (r.set j x) := by
 intro p hp
 rcases List.mem_or_eq_of_mem_set hp with h1 | h1
 ·exact h p h1
 ·rw [h1]; exact hx
theorem RowRg.mono {R S : Int} {r : List Po} (h : RowRg R r) (hs : R ≤ S) : RowRg S r := fun p hp => (h p hp).mono hs
theorem rg_more : Rg 1 ((0, [1, -1]) : Po) := ⟨by decide, by decide⟩
theorem rg_up : Rg 1 ((1, [1]) : Po) := ⟨by decide, by decide⟩
theorem rg_down : Rg 1 ((-1, [1]) : Po) := ⟨by decide, by decide⟩
theorem rg_less : Rg 1 ((-1, [-1, 1]) : Po) := ⟨by decide, by decide⟩
theorem stepUp_rg {R : Int} {r : List Po} (h : RowRg R r) (hR : 0 ≤ R) (q : Nat) : RowRg (R + 1) (stepUp q r) := by
  unfold stepUp
  exact ((h.mono (by omega)).set (plusP_rg (timesP_rg (h.at_ hR q) rg_more hR (by decide)) ((h.at_ hR (q + 1)).mono (by omega))) q).set (timesP_rg (h.at_ hR q) rg_up hR (by decide)) (q + 1)
theorem stepDn_rg {R : Int} {r : List Po} (h : RowRg R r) (hR : 0 ≤ R) (q : Nat) : RowRg (R + 1) (stepDn q r) := by
  unfold stepDn
  exact ((h.mono (by omega)).set (timesP_rg (h.at_ hR (q + 1)) rg_down hR (by decide)) q).set (plusP_rg ((h.at_ hR q).mono (by omega)) (timesP_rg (h.at_ hR (q + 1)) rg_less hR (by decide))) (q + 1)
theorem stepRow_rg {R : Int} {r : List Po} (h : RowRg R r) (hR : 0 ≤ R) (k : Int) : RowRg (R + 1) (stepRow k r) := by
 unfold stepRow
 split
 ·exact stepUp_rg h hR _
 ·exact stepDn_rg h hR _
theorem AllRg.step {R : Int} {L : List (List Po)} (h : AllRg R L) (hR : 0 ≤ R) (k : Int) : AllRg (R + 1) (L.map (stepRow k)) := by
 intro r hr
 obtain ⟨r0, h0, rfl⟩ := List.mem_map.1 hr
 exact stepRow_rg (h r0 h0) hR k
theorem oneM_rg (n : Nat) : AllRg 0 (oneM n) := by
 intro r hr p hp
 unfold oneM at hr
 obtain ⟨i, _, rfl⟩ := List.mem_map.1 hr
 unfold rowId at hp
 obtain ⟨j, _, rfl⟩ := List.mem_map.1 hp
 split <;> exact ⟨by decide, by decide⟩
theorem burauF_rg (n : Nat) (xs : List Int) : AllRg (xs.length : Int) (burauF n xs) := by
 suffices h : ∀ (xs : List Int) (R : Int) (L : List (List Po)), 0 ≤ R → AllRg R L → AllRg (R + (xs.length : Int)) (xs.foldl (fun L k => L.map (stepRow k)) L) by
  have := h xs 0 (oneM n) (by decide) (oneM_rg n)
  rw [Int.zero_add] at this
  exact this
 intro xs
 induction xs with
 | nil => intro R L hR h; simpa using h
 | cons k xs ih =>
  intro R L hR h
  have := ih (R + 1) _ (by omega) (h.step hR k)
  have e : R + 1 + (xs.length : Int) = R + ((k :: xs).length : Int) := by simp; omega
  rw [← e]
  exact this
theorem burauF_len (n : Nat) (xs : List Int) : (burauF n xs).length = n := by
 suffices h : ∀ (xs : List Int) (L : List (List Po)), (xs.foldl (fun L k => L.map (stepRow k)) L).length = L.length by
  unfold burauF; rw [h]; unfold oneM; simp
 intro xs
 induction xs with
 | nil => intro L; rfl
 | cons k xs ih => intro L; rw [List.foldl_cons, ih, List.length_map]
/-- The first i rows are done. -/
def rowsTo (k : Int) (i : Nat) (L : List (List Po)) : List (List Po) := (L.take i).map (stepRow k) ++ L.drop i
theorem rowsTo_at {k : Int} {i : Nat} {L : List (List Po)} (hi : i < L.length) : (rowsTo k i L).getD i [] = L[i] := by
 unfold rowsTo
 rw [List.getD_eq_getElem?_getD, List.getElem?_append_right (by simp; omega)]
 simp [List.getElem?_eq_getElem hi, Nat.min_eq_left (Nat.le_of_lt hi)]
theorem rowsTo_set {k : Int} {i : Nat} {L : List (List Po)} (hi : i < L.length) : (rowsTo k i L).set i (stepRow k L[i]) = rowsTo k (i + 1) L := by
 unfold rowsTo
 rw [List.set_append_right _ _ (by simp; omega)]
 have h1 : i - ((L.take i).map (stepRow k)).length = 0 := by simp; omega
 rw [h1, List.drop_eq_getElem_cons hi, List.set_cons_zero, List.take_succ_eq_append_getElem hi, List.map_append, List.append_assoc]
 rfl
theorem rowsTo_all {k : Int} {i : Nat} {L : List (List Po)} (hi : L.length ≤ i) : rowsTo k i L = L.map (stepRow k) := by unfold rowsTo; rw [List.take_of_length_le hi, List.drop_of_length_le hi, List.append_nil]
theorem rowsTo_zero (k : Int) (L : List (List Po)) : rowsTo k 0 L = L := by unfold rowsTo; simp
section
variable {P : Program} {ops : Array Oper} {Q : Exit → Act → World → Prop} {md : Region.Mode} {S : World → Prop} {n : Nat}
theorem wpAnyT_at {i : Nat} {o : Oper} {fuel : Nat} {listed : Array Bool} {a : Act} {w : World} (hi : ops[i]? = some o)
  (h : ∀ K : Act → World → Prop, (∀ a' w', (i ≠ n → S w') → wpAnyT P md ops Q S n fuel (listed.setIfInBounds i true) a' w' → K a' w') → wpList P ops (Exit.then K Q) [o] a w) :
  wpOp P ops Q i (fun a' w' => (i ≠ n → S w') ∧ wpAnyT P md ops Q S n fuel (listed.setIfInBounds i true) a' w') a w := by
 have h1 := h _ (fun a' w' h1 h2 => And.intro h1 h2)
 unfold wpOp
 simp only [hi]
 unfold wpList at h1
 by_cases hw : Region.wanted o (yielded ops a.tmps) = true
 ·rw [if_pos hw] at h1 ⊢
  rcases h1 with h1 | h1
  ·exact .inl (wp_of_then h1)
  ·exact .inr ⟨h1.1, h1.2⟩
 ·rw [if_neg hw] at h1 ⊢
  exact h1
/-- Two operations may come next. -/
theorem wpAnyT_two {i j : Nat} {o p : Oper} {fuel : Nat} {listed : Array Bool} {a : Act} {w : World} (hr : Region.ready md ops listed = [i, j]) (hi : ops[i]? = some o) (hj : ops[j]? = some p)
  (h : ∀ K : Act → World → Prop, (∀ a' w', (i ≠ n → S w') → wpAnyT P md ops Q S n fuel (listed.setIfInBounds i true) a' w' → K a' w') → wpList P ops (Exit.then K Q) [o] a w)
  (k : ∀ K : Act → World → Prop, (∀ a' w', (j ≠ n → S w') → wpAnyT P md ops Q S n fuel (listed.setIfInBounds j true) a' w' → K a' w') → wpList P ops (Exit.then K Q) [p] a w) :
  wpAnyT P md ops Q S n (fuel + 1) listed a w := by
 refine ⟨fun h0 => (by rw [hr] at h0; cases h0), fun q hq => ?_⟩
 rw [hr] at hq
 simp only [List.mem_cons, List.not_mem_nil, or_false] at hq
 rcases hq with rfl | rfl
 ·exact wpAnyT_at hi h
 ·exact wpAnyT_at hj k
/-- Three may. -/
theorem wpAnyT_three {i j l : Nat} {o p q : Oper} {fuel : Nat} {listed : Array Bool} {a : Act} {w : World} (hr : Region.ready md ops listed = [i, j, l]) (hi : ops[i]? = some o) (hj : ops[j]? = some p) (hl : ops[l]? = some q)
  (h : ∀ K : Act → World → Prop, (∀ a' w', (i ≠ n → S w') → wpAnyT P md ops Q S n fuel (listed.setIfInBounds i true) a' w' → K a' w') → wpList P ops (Exit.then K Q) [o] a w)
  (k : ∀ K : Act → World → Prop, (∀ a' w', (j ≠ n → S w') → wpAnyT P md ops Q S n fuel (listed.setIfInBounds j true) a' w' → K a' w') → wpList P ops (Exit.then K Q) [p] a w)
  (m : ∀ K : Act → World → Prop, (∀ a' w', (l ≠ n → S w') → wpAnyT P md ops Q S n fuel (listed.setIfInBounds l true) a' w' → K a' w') → wpList P ops (Exit.then K Q) [q] a w) :
  wpAnyT P md ops Q S n (fuel + 1) listed a w := by
 refine ⟨fun h0 => (by rw [hr] at h0; cases h0), fun q hq => ?_⟩
 rw [hr] at hq
 simp only [List.mem_cons, List.not_mem_nil, or_false] at hq
 rcases hq with rfl | rfl | rfl
 ·exact wpAnyT_at hi h
 ·exact wpAnyT_at hj k
 ·exact wpAnyT_at hl m
end
end Go.Proofs.Ytdldfdcedjmneaa.Own

/- The declarations of Rhx1 that the claim Qc needs. -/
import Derived.Test.YtdpolfflemocaaaQcTkP
import Derived.Test.YtdpolfflemocaaaQcRhx0
namespace Go.Proofs.Ytdpolfflemocaaa.Rh
open Go.RowKit Go.Proofs.Ytdpolfflemocaaa.Own Go.Proofs.Ytdpolfflemocaaa.Rx Go.Proofs.YtdpolfflemocaaaW.PrintWords Go.Proofs.YtdpolfflemocaaaW.PrintLast Go.Proofs.YtdpolfflemocaaaW.PrintMore
attribute [local go_sem] max2_int min2_int max_two min_two max_three min_three max_four min_four
set_option linter.unusedVariables false
set_option linter.unusedSimpArgs false
mutual
def gamplaw04_RibColors.j0 : Nat → List Int → List (List Int) → Bool → Int → List (S52) → Option (Bool)
  | 0, _, _, _, _, _ => none
  | k + 1, x4, x7, x98, x107000, x107001 => if x98 = true then (some false) else ((Rg.gampref04_Most.f k x107000 x107001).bind fun t123 => (gamplaw04_RibColors.l0 k x4 x7 t123 0 x107000 x107001))
def gamplaw04_RibColors.l0 : Nat → List Int → List (List Int) → Int → Int → Int → List (S52) → Option (Bool)
  | 0, _, _, _, _, _, _ => none
  | k + 1, x4, x7, x10, x11, x107000, x107001 => if x11 < x107000 then (if 0 ≤ x11 then (if x11 < (x4.length : Int) then (if (rd x4 x11) < 0 then (gamplaw04_RibColors.j2 k x4 x7 x10 x11 true x107000 x107001) else (gamplaw04_RibColors.j2 k x4 x7 x10 x11 (decide ((rd x4 x11) ≥ x10)) x107000 x107001)) else (none)) else (none)) else (gamplaw04_RibColors.l2 k x4 x7 0 x107000 x107001)
def gamplaw04_RibColors.j2 : Nat → List Int → List (List Int) → Int → Int → Bool → Int → List (S52) → Option (Bool)
  | 0, _, _, _, _, _, _, _ => none
  | k + 1, x4, x7, x10, x11, x122, x107000, x107001 => if x122 = true then (some false) else (gamplaw04_RibColors.l1 k x4 x7 x10 x11 false 0 x107000 x107001)
def gamplaw04_RibColors.l1 : Nat → List Int → List (List Int) → Int → Int → Bool → Int → Int → List (S52) → Option (Bool)
  | 0, _, _, _, _, _, _, _, _ => none
  | k + 1, x4, x7, x10, x11, x12, x13, x107000, x107001 => if x13 < (x7.length : Int) then (if x12 = true then (gamplaw04_RibColors.l1 k x4 x7 x10 x11 true (wrap64 (x13 + 1)) x107000 x107001) else (if 0 ≤ x13 then ((Rg.gampref04_Has.f k (rd_L1 x7 x13) x11).bind fun t127 => (gamplaw04_RibColors.l1 k x4 x7 x10 x11 t127 (wrap64 (x13 + 1)) x107000 x107001)) else (none))) else (if x12 = true then (gamplaw04_RibColors.l0 k x4 x7 x10 (wrap64 (x11 + 1)) x107000 x107001) else (some false))
def gamplaw04_RibColors.l2 : Nat → List Int → List (List Int) → Int → Int → List (S52) → Option (Bool)
  | 0, _, _, _, _, _ => none
  | k + 1, x4, x7, x14, x107000, x107001 => if x14 < (x107001.length : Int) then (if 0 ≤ x14 then (if 0 ≤ ((rd_T52 x107001 x14).f0) then (if ((rd_T52 x107001 x14).f0) < (x4.length : Int) then (if 0 ≤ ((rd_T52 x107001 x14).f1) then (if ((rd_T52 x107001 x14).f1) < (x4.length : Int) then (if (rd x4 ((rd_T52 x107001 x14).f0)) = (rd x4 ((rd_T52 x107001 x14).f1)) then (some false) else (gamplaw04_RibColors.l2 k x4 x7 (wrap64 (x14 + 1)) x107000 x107001)) else (none)) else (none)) else (none)) else (none)) else (none)) else (gamplaw04_RibColors.l3 k x7 0 x107000 x107001)
def gamplaw04_RibColors.l3 : Nat → List (List Int) → Int → Int → List (S52) → Option (Bool)
  | 0, _, _, _, _ => none
  | k + 1, x7, x15, x107000, x107001 => if x15 < (x7.length : Int) then (if 0 ≤ x15 then ((Rg.gamplaw04_rising.f k (rd_L1 x7 x15) x107000).bind fun t133 => (if t133 = true then ((Rx.gampref04_Clique.f k x107001 (rd_L1 x7 x15)).bind fun t135 => (if t135 = true then (gamplaw04_RibColors.l3 k x7 (wrap64 (x15 + 1)) x107000 x107001) else (some false))) else (some false))) else (none)) else (some true)
end
noncomputable def gamplaw04_RibColors.f (k : Nat) (a0_0 : Int) (l0_1 : List (S52)) : Option (Bool) := (Rx.gamplaw04_few.f a0_0 l0_1).bind fun bt102 => ((Bk.rib_Colors.f k bt102.1 bt102.2).bind fun bt107 => ((Rg.rib_Apart.f k bt102.1 bt102.2).bind fun bt111 => ((Rw.gamplaw04_chordal.f k bt102.1 bt102.2).bind fun t118 => (if t118 = 0 then (if bt107.2 = 0 then (if bt111.2.2 = 0 then (if (bt107.1.length : Int) = bt102.1 then (if (bt111.1.length : Int) = (bt111.2.1.length : Int) then ((Rg.gamplaw04_rising.f k bt111.1 bt102.1).bind fun t120 => (if t120 = true then ((Rg.gampref04_Free.f k bt102.2 bt111.1).bind fun t121 => (if t121 = true then ((Rx.gamplaw04_lives.f k).bind fun t122 => (gamplaw04_RibColors.j0 k bt107.1 bt111.2.1 (!t122) bt102.1 bt102.2)) else (gamplaw04_RibColors.j0 k bt107.1 bt111.2.1 true bt102.1 bt102.2))) else (gamplaw04_RibColors.j0 k bt107.1 bt111.2.1 true bt102.1 bt102.2))) else (gamplaw04_RibColors.j0 k bt107.1 bt111.2.1 true bt102.1 bt102.2)) else (gamplaw04_RibColors.j0 k bt107.1 bt111.2.1 true bt102.1 bt102.2)) else (gamplaw04_RibColors.j0 k bt107.1 bt111.2.1 true bt102.1 bt102.2)) else (gamplaw04_RibColors.j0 k bt107.1 bt111.2.1 true bt102.1 bt102.2)) else (if (wrap64 ((wrap64 ((bt107.1.length : Int) + (bt111.1.length : Int))) + (bt111.2.1.length : Int))) = 0 then (if bt107.2 = t118 then (if bt111.2.2 = t118 then ((Rx.gamplaw04_lives.f k).bind fun t119 => (some t119)) else (some false)) else (some false)) else (some false))))))
def gamplaw04_RibColors.T25 : Bool × List (List Nat × List Nat) := (true, [([], []), ([], []), ([1], [1]), ([], []), ([2, 3], [2, 3]), ([4], [4]), ([5], [5]), ([0, 6], [0, 6]), ([7], [7]), ([], []), ([], []), ([10], [10]), ([], []), ([11, 12], [11, 12]), ([13], [13]), ([14], [14]), ([9, 15], [9, 15]), ([16], [16]), ([8, 17], [8, 17])])
def gamplaw04_RibColors.B25 : List Nat := [0, 0, 2, 0, 14, 30, 62, 127, 255, 0, 0, 1024, 0, 7168, 15360, 31744, 65024, 130560, 262143]
theorem gamplaw04_RibColors.tab25 : rtab .any (opsOf Try.f7 25) = gamplaw04_RibColors.T25 := by kernel_rfl
theorem gamplaw04_RibColors.bits25 : waitsOk gamplaw04_RibColors.T25.2 gamplaw04_RibColors.B25 = true := by kernel_rfl
def gamplaw04_RibColors.T30 : Bool × List (List Nat × List Nat) := (true, [([], []), ([], []), ([0, 1], [0, 1]), ([2], [2]), ([], []), ([4], [4]), ([3, 5], [3, 5]), ([6], [6]), ([7, 6], [7]), ([8], [8]), ([9, 8], [8, 9]), ([8], [8]), ([8], [8]), ([11, 12, 8], [8, 11, 12]), ([13, 8], [8, 13]), ([10, 14, 8, 8], [8, 10, 14]), ([15, 8], [8, 15]), ([8, 16], [8, 16])])
def gamplaw04_RibColors.B30 : List Nat := [0, 0, 3, 7, 0, 16, 63, 127, 255, 511, 1023, 511, 511, 6655, 14847, 32767, 65535, 131071]
theorem gamplaw04_RibColors.tab30 : rtab .any (opsOf Try.f7 30) = gamplaw04_RibColors.T30 := by kernel_rfl
theorem gamplaw04_RibColors.bits30 : waitsOk gamplaw04_RibColors.T30.2 gamplaw04_RibColors.B30 = true := by kernel_rfl
set_option maxHeartbeats 8000000 in
set_option maxRecDepth 100000 in
theorem gamplaw04_RibColors.calls (k : Nat) (a0_0 : Int) (A0_1 : Option Addr) (c0_1 : Nat) (l0_1 : List (S52)) (r : Bool) (w : World) (hr0_1 : Kd.C k52 w A0_1 l0_1.length l0_1) (hc0_1 : l0_1.length ≤ c0_1) (h : gamplaw04_RibColors.f k a0_0 l0_1 = some r) (hrt : r = true) :
  Calls Try.prog 7 #[.agg #[.int .i64 a0_0, .slice A0_1 l0_1.length c0_1]] w fun e w' => e = .returned (.bool r) ∧ Below w.heap.size w w' := by
 have hu24 := Try.underlying24
 have HR0_1 := Aside0.mk hr0_1
 have HC0_1 := Aside0.mk hc0_1
 clear hr0_1 hc0_1
 have HB := Aside0.mk (Below.refl w.heap.size w)
 have H : ((Rx.gamplaw04_few.f a0_0 l0_1).bind fun bt102 => ((Bk.rib_Colors.f k bt102.1 bt102.2).bind fun bt107 => ((Rg.rib_Apart.f k bt102.1 bt102.2).bind fun bt111 => ((Rw.gamplaw04_chordal.f k bt102.1 bt102.2).bind fun t118 => (if t118 = 0 then (if bt107.2 = 0 then (if bt111.2.2 = 0 then (if (bt107.1.length : Int) = bt102.1 then (if (bt111.1.length : Int) = (bt111.2.1.length : Int) then ((Rg.gamplaw04_rising.f k bt111.1 bt102.1).bind fun t120 => (if t120 = true then ((Rg.gampref04_Free.f k bt102.2 bt111.1).bind fun t121 => (if t121 = true then ((Rx.gamplaw04_lives.f k).bind fun t122 => (gamplaw04_RibColors.j0 k bt107.1 bt111.2.1 (!t122) bt102.1 bt102.2)) else (gamplaw04_RibColors.j0 k bt107.1 bt111.2.1 true bt102.1 bt102.2))) else (gamplaw04_RibColors.j0 k bt107.1 bt111.2.1 true bt102.1 bt102.2))) else (gamplaw04_RibColors.j0 k bt107.1 bt111.2.1 true bt102.1 bt102.2)) else (gamplaw04_RibColors.j0 k bt107.1 bt111.2.1 true bt102.1 bt102.2)) else (gamplaw04_RibColors.j0 k bt107.1 bt111.2.1 true bt102.1 bt102.2)) else (gamplaw04_RibColors.j0 k bt107.1 bt111.2.1 true bt102.1 bt102.2)) else (if (wrap64 ((wrap64 ((bt107.1.length : Int) + (bt111.1.length : Int))) + (bt111.2.1.length : Int))) = 0 then (if bt107.2 = t118 then (if bt111.2.2 = t118 then ((Rx.gamplaw04_lives.f k).bind fun t119 => (some t119)) else (some false)) else (some false)) else (some false))))))) = some r := h
 clear h
 replace H := Option.bind_eq_some_iff.mp H
 obtain ⟨⟨t102, t103⟩, A20, H⟩ := H
 replace H : ((Bk.rib_Colors.f k t102 t103).bind fun bt107 => ((Rg.rib_Apart.f k t102 t103).bind fun bt111 => ((Rw.gamplaw04_chordal.f k t102 t103).bind fun t118 => (if t118 = 0 then (if bt107.2 = 0 then (if bt111.2.2 = 0 then (if (bt107.1.length : Int) = t102 then (if (bt111.1.length : Int) = (bt111.2.1.length : Int) then ((Rg.gamplaw04_rising.f k bt111.1 t102).bind fun t120 => (if t120 = true then ((Rg.gampref04_Free.f k t103 bt111.1).bind fun t121 => (if t121 = true then ((Rx.gamplaw04_lives.f k).bind fun t122 => (gamplaw04_RibColors.j0 k bt107.1 bt111.2.1 (!t122) t102 t103)) else (gamplaw04_RibColors.j0 k bt107.1 bt111.2.1 true t102 t103))) else (gamplaw04_RibColors.j0 k bt107.1 bt111.2.1 true t102 t103))) else (gamplaw04_RibColors.j0 k bt107.1 bt111.2.1 true t102 t103)) else (gamplaw04_RibColors.j0 k bt107.1 bt111.2.1 true t102 t103)) else (gamplaw04_RibColors.j0 k bt107.1 bt111.2.1 true t102 t103)) else (gamplaw04_RibColors.j0 k bt107.1 bt111.2.1 true t102 t103)) else (if (wrap64 ((wrap64 ((bt107.1.length : Int) + (bt111.1.length : Int))) + (bt111.2.1.length : Int))) = 0 then (if bt107.2 = t118 then (if bt111.2.2 = t118 then ((Rx.gamplaw04_lives.f k).bind fun t119 => (some t119)) else (some false)) else (some false)) else (some false)))))) = some r := H
 have A2 := Aside0.mk A20
 clear A20
 replace H := Option.bind_eq_some_iff.mp H
 obtain ⟨⟨t107, t108⟩, A30, H⟩ := H
 replace H : ((Rg.rib_Apart.f k t102 t103).bind fun bt111 => ((Rw.gamplaw04_chordal.f k t102 t103).bind fun t118 => (if t118 = 0 then (if t108 = 0 then (if bt111.2.2 = 0 then (if (t107.length : Int) = t102 then (if (bt111.1.length : Int) = (bt111.2.1.length : Int) then ((Rg.gamplaw04_rising.f k bt111.1 t102).bind fun t120 => (if t120 = true then ((Rg.gampref04_Free.f k t103 bt111.1).bind fun t121 => (if t121 = true then ((Rx.gamplaw04_lives.f k).bind fun t122 => (gamplaw04_RibColors.j0 k t107 bt111.2.1 (!t122) t102 t103)) else (gamplaw04_RibColors.j0 k t107 bt111.2.1 true t102 t103))) else (gamplaw04_RibColors.j0 k t107 bt111.2.1 true t102 t103))) else (gamplaw04_RibColors.j0 k t107 bt111.2.1 true t102 t103)) else (gamplaw04_RibColors.j0 k t107 bt111.2.1 true t102 t103)) else (gamplaw04_RibColors.j0 k t107 bt111.2.1 true t102 t103)) else (gamplaw04_RibColors.j0 k t107 bt111.2.1 true t102 t103)) else (if (wrap64 ((wrap64 ((t107.length : Int) + (bt111.1.length : Int))) + (bt111.2.1.length : Int))) = 0 then (if t108 = t118 then (if bt111.2.2 = t118 then ((Rx.gamplaw04_lives.f k).bind fun t119 => (some t119)) else (some false)) else (some false)) else (some false))))) = some r := H
 have A3 := Aside0.mk A30
 clear A30
 replace H := Option.bind_eq_some_iff.mp H
 obtain ⟨⟨t111, t112, t113⟩, A40, H⟩ := H
 replace H : ((Rw.gamplaw04_chordal.f k t102 t103).bind fun t118 => (if t118 = 0 then (if t108 = 0 then (if t113 = 0 then (if (t107.length : Int) = t102 then (if (t111.length : Int) = (t112.length : Int) then ((Rg.gamplaw04_rising.f k t111 t102).bind fun t120 => (if t120 = true then ((Rg.gampref04_Free.f k t103 t111).bind fun t121 => (if t121 = true then ((Rx.gamplaw04_lives.f k).bind fun t122 => (gamplaw04_RibColors.j0 k t107 t112 (!t122) t102 t103)) else (gamplaw04_RibColors.j0 k t107 t112 true t102 t103))) else (gamplaw04_RibColors.j0 k t107 t112 true t102 t103))) else (gamplaw04_RibColors.j0 k t107 t112 true t102 t103)) else (gamplaw04_RibColors.j0 k t107 t112 true t102 t103)) else (gamplaw04_RibColors.j0 k t107 t112 true t102 t103)) else (gamplaw04_RibColors.j0 k t107 t112 true t102 t103)) else (if (wrap64 ((wrap64 ((t107.length : Int) + (t111.length : Int))) + (t112.length : Int))) = 0 then (if t108 = t118 then (if t113 = t118 then ((Rx.gamplaw04_lives.f k).bind fun t119 => (some t119)) else (some false)) else (some false)) else (some false)))) = some r := H
 have A4 := Aside0.mk A40
 clear A40
 replace H := Option.bind_eq_some_iff.mp H
 obtain ⟨t118, A50, H⟩ := H
 replace H : (if t118 = 0 then (if t108 = 0 then (if t113 = 0 then (if (t107.length : Int) = t102 then (if (t111.length : Int) = (t112.length : Int) then ((Rg.gamplaw04_rising.f k t111 t102).bind fun t120 => (if t120 = true then ((Rg.gampref04_Free.f k t103 t111).bind fun t121 => (if t121 = true then ((Rx.gamplaw04_lives.f k).bind fun t122 => (gamplaw04_RibColors.j0 k t107 t112 (!t122) t102 t103)) else (gamplaw04_RibColors.j0 k t107 t112 true t102 t103))) else (gamplaw04_RibColors.j0 k t107 t112 true t102 t103))) else (gamplaw04_RibColors.j0 k t107 t112 true t102 t103)) else (gamplaw04_RibColors.j0 k t107 t112 true t102 t103)) else (gamplaw04_RibColors.j0 k t107 t112 true t102 t103)) else (gamplaw04_RibColors.j0 k t107 t112 true t102 t103)) else (if (wrap64 ((wrap64 ((t107.length : Int) + (t111.length : Int))) + (t112.length : Int))) = 0 then (if t108 = t118 then (if t113 = t118 then ((Rx.gamplaw04_lives.f k).bind fun t119 => (some t119)) else (some false)) else (some false)) else (some false))) = some r := H
 have A5 := Aside0.mk A50
 clear A50
 by_cases c6 : t118 = 0
 ·rw [if_pos c6] at H
  have c6b0 : (t118 == 0) = true := beq_iff_eq.mpr c6
  have c6b1 : (t118 != 0) = false := bne_eq_false_iff_eq.mpr c6
  clear c6
  have HC7 := Aside0.mk H
  clear H
  go_enter Try.func7, Try.ntmps7
  go_upto_region 7 with (first | ((with_reducible refine gate_dst (N := 1) rfl ?_); (try (refine gate_guard (by rfl) ?_; dsimp only)); refine box_event ?hg (N := 1) ?hd (cs := #[.int .i64 a0_0, .slice A0_1 l0_1.length c0_1]) (t := 24) ?hr ?_; (case hd => rfl); (case hg => rfl); (case hr => first | (go_simp; done) | (go_simp; rfl)); intro gb101 hg w8 hbox hb; have n0_ := Aside0.mk (below_step (bl HB) hb); have n1_ := Aside0.mk (hbox); have n2_ := Aside0.mk ((by rw [hg]; exact (below_size (bl HB)) : w.heap.size ≤ gb101)); have n3_ := Aside0.mk ((by rw [hg]; exact (below_size (bl HB)) : w.heap.size ≤ gb101)); clear HB; have HB := n0_; have BK101 := n1_; have GW101 := n2_; have GE101 := n3_; clear n0_ n1_ n2_ n3_; clear hb hbox hg; have hcz9_0 : w8.cell? ⟨gb101, 0, none⟩ = some (.int .i64 a0_0) := (blk_cell BK101.out 0).trans rfl; have hcz9_1 : w8.cell? ⟨gb101, 1, none⟩ = some (.slice A0_1 l0_1.length c0_1) := (blk_cell BK101.out 1).trans rfl; have hfz9_0 := blk_frozen BK101.out 0; have hfz9_1 := blk_frozen BK101.out 1) | ((with_reducible refine gate_callee (f := 15) rfl ?_); refine gL 17 Try.func15 #[.agg #[.int .i64 a0_0, .slice A0_1 l0_1.length c0_1]] ?_; (with_reducible refine (Rx.gamplaw04_few.calls a0_0 _ _ l0_1 t102 t103 _ ?side1 ?side2 A2.out).mono ?_); (case side1 => exact cl (Kd.C_below HR0_1.out HB.out)); (case side2 => exact HC0_1.out); rintro e w10 ⟨v104, rfl, ho0, hb⟩; refine ⟨_, rfl, ?_⟩; have n0_ := Aside0.mk (Kd.R_lower ho0 (below_size (bl HB))); have n1_ := Aside0.mk (blk_below (g := gb101) (o := .cells #[.int .i64 a0_0, .slice A0_1 l0_1.length c0_1] 24 (0, 0)) (bk BK101) hb); have n2_ := Aside0.mk (below_step (bl HB) hb); clear BK101; clear HB; have HO105 := n0_; have BK101 := n1_; have HB := n2_; clear n0_ n1_ n2_; (try clear hb); (try clear hb2); (try clear hk); (try clear hi); (try clear ho0)) | ((with_reducible refine gate_dst (N := 3) rfl ?_); (try (refine gate_guard (by rfl) ?_; dsimp only)); refine box_event ?hg (N := 3) ?hd (cs := #[.int .i64 0, .slice none 0 0]) (t := 24) ?hr ?_; (case hd => rfl); (case hg => rfl); (case hr => first | (go_simp; done) | (go_simp; rfl)); intro gb106 hg w11 hbox hb; have n0_ := Aside0.mk (Kd.R_below (rl HO105) hb); have n1_ := Aside0.mk (blk_below (g := gb101) (o := .cells #[.int .i64 a0_0, .slice A0_1 l0_1.length c0_1] 24 (0, 0)) (bk BK101) hb); have n2_ := Aside0.mk (below_step (bl HB) hb); have n3_ := Aside0.mk (hbox); have n4_ := Aside0.mk ((by rw [hg]; exact (below_size (bl HB)) : w.heap.size ≤ gb106)); have n5_ := Aside0.mk ((by rw [hg]; exact (below_size (bl HB)) : w.heap.size ≤ gb106)); have n6_ := Aside0.mk ((by rw [hg]; exact Nat.ne_of_lt (blk_lt (g := gb101) (o := .cells #[.int .i64 a0_0, .slice A0_1 l0_1.length c0_1] 24 (0, 0)) (bk BK101)) : gb101 ≠ gb106)); have n7_ := Aside0.mk ((by rw [hg]; exact Nat.ne_of_gt (blk_lt (g := gb101) (o := .cells #[.int .i64 a0_0, .slice A0_1 l0_1.length c0_1] 24 (0, 0)) (bk BK101)) : gb106 ≠ gb101)); clear HO105; clear BK101; clear HB; have HO105 := n0_; have BK101 := n1_; have HB := n2_; have BK106 := n3_; have GW106 := n4_; have GE106 := n5_; have NB101_106 := n6_; have NB106_101 := n7_; clear n0_ n1_ n2_ n3_ n4_ n5_ n6_ n7_; clear hb hbox hg; have hnb12 := NB106_101.out; have hnc12 := NB101_106.out; have hcz13_0 : w11.cell? ⟨gb106, 0, none⟩ = some (.int .i64 0) := (blk_cell BK106.out 0).trans rfl; have hcz13_1 : w11.cell? ⟨gb106, 1, none⟩ = some (.slice none 0 0) := (blk_cell BK106.out 1).trans rfl; have hfz13_0 := blk_frozen BK106.out 0; have hfz13_1 := blk_frozen BK106.out 1; obtain ⟨Ao14, co14, eo14⟩ := Kd.R_slice HO105.out; subst eo14) | ((with_reducible refine gate_callee (f := 33) rfl ?_); refine gL 23 Try.func33 #[.int .i64 t102, .slice Ao14 t103.length co14] ?_; (with_reducible refine (Bk.rib_Colors.calls k t102 _ _ t103 t107 t108 _ ?side1 ?side2 A3.out).mono ?_); (case side1 => refine (Kd.R_reads' (e := 52) (base := w.heap.size) (ok := fun k_ => True) (n := t103.length) (c := co14) ?_).2.2; exact (by (with_reducible repeat (first | apply Kd.R_alloc | apply Kd.R_drewN | apply Kd.R_drew)); exact (Kd.R_mono (Kd.R_far (p := ⟨gb106, 1, none⟩) (Kd.R_far (p := ⟨gb106, 0, none⟩) (Kd.R_types HO105.out BK106.out (by decide)) (fun _ hk => hk.2) (.int .i64 t102)) (fun _ hk => hk.2) (.slice Ao14 t103.length co14)) (fun _ h_ => h_.1)))); (case side2 => exact (Kd.R_reads' HO105.out).2.1); rintro e w15 ⟨v109, rfl, ho0, hb⟩; refine ⟨_, rfl, ?_⟩; have n0_ := Aside0.mk (Kd.R_below (by (with_reducible repeat (first | apply Kd.R_alloc | apply Kd.R_drewN | apply Kd.R_drew)); exact (Kd.R_mono (Kd.R_far (p := ⟨gb106, 1, none⟩) (Kd.R_far (p := ⟨gb106, 0, none⟩) (Kd.R_types HO105.out BK106.out (by decide)) (fun _ hk => hk.2) (.int .i64 t102)) (fun _ hk => hk.2) (.slice Ao14 t103.length co14)) (fun _ h_ => h_.1))) hb); have n1_ := Aside0.mk (Kd.R_lower ho0 (below_size (bl HB))); have n2_ := Aside0.mk (blk_below (g := gb101) (o := .cells #[.int .i64 a0_0, .slice A0_1 l0_1.length c0_1] 24 (0, 0)) (by (with_reducible repeat (first | refine blk_drewN ?_ _ | refine blk_drew ?_ | refine blk_alloc ?_ _)); refine blk_far ?_ NB101_106.out _; (with_reducible repeat (first | refine blk_drewN ?_ _ | refine blk_drew ?_ | refine blk_alloc ?_ _)); refine blk_far ?_ NB101_106.out _; (with_reducible repeat (first | refine blk_drewN ?_ _ | refine blk_drew ?_ | refine blk_alloc ?_ _)); exact BK101.out) hb); have n3_ := Aside0.mk (blk_below (g := gb106) (o := .cells #[.int .i64 t102, .slice Ao14 t103.length co14] 24 (0, 0)) (by (with_reducible repeat (first | refine blk_drewN ?_ _ | refine blk_drew ?_ | refine blk_alloc ?_ _)); refine blk_put (cs := #[.int .i64 t102, .slice none 0 0]) ?_ 1 _ rfl; (with_reducible repeat (first | refine blk_drewN ?_ _ | refine blk_drew ?_ | refine blk_alloc ?_ _)); refine blk_put (cs := #[.int .i64 0, .slice none 0 0]) ?_ 0 _ rfl; (with_reducible repeat (first | refine blk_drewN ?_ _ | refine blk_drew ?_ | refine blk_alloc ?_ _)); exact BK106.out) hb); have n4_ := Aside0.mk (below_step (bl HB) hb); clear HO105; clear BK101; clear BK106; clear HB; have HO105 := n0_; have HO110 := n1_; have BK101 := n2_; have BK106 := n3_; have HB := n4_; clear n0_ n1_ n2_ n3_ n4_; (try clear hb); (try clear hb2); (try clear hk); (try clear hi); (try clear ho0); have hcz16_0 : w15.cell? ⟨gb106, 0, none⟩ = some (.int .i64 t102) := (blk_cell BK106.out 0).trans rfl; have hcz16_1 : w15.cell? ⟨gb106, 1, none⟩ = some (.slice Ao14 t103.length co14) := (blk_cell BK106.out 1).trans rfl; have hfz16_0 := blk_frozen BK106.out 0; have hfz16_1 := blk_frozen BK106.out 1) | ((with_reducible refine gate_callee (f := 34) rfl ?_); refine gL 31 Try.func34 #[.int .i64 t102, .slice Ao14 t103.length co14] ?_; (with_reducible refine (Rg.rib_Apart.calls k t102 _ _ t103 t111 t112 t113 _ ?side1 ?side2 A4.out).mono ?_); (case side1 => exact cl ((Kd.R_reads' HO105.out).2.2)); (case side2 => exact (Kd.R_reads' HO105.out).2.1); rintro e w17 ⟨v114, v116, rfl, ho0, ho1, hb⟩; refine ⟨_, rfl, ?_⟩; have n0_ := Aside0.mk (Kd.R_below (rl HO105) hb); have n1_ := Aside0.mk (Kd.R_elder' (rl HO110) (Kd.R_base ho0) hb); have n2_ := Aside0.mk (Kd.R_lower (Kd.R_new' ho0 (Kd.R_lt (rl HO110))) (below_size (bl HB))); have n3_ := Aside0.mk (Kd.S_lower (Kd.S_new' ho1 (Kd.R_lt (rl HO110))) (below_size (bl HB))); have n4_ := Aside0.mk (blk_below (g := gb101) (o := .cells #[.int .i64 a0_0, .slice A0_1 l0_1.length c0_1] 24 (0, 0)) (bk BK101) hb); have n5_ := Aside0.mk (blk_below (g := gb106) (o := .cells #[.int .i64 t102, .slice Ao14 t103.length co14] 24 (0, 0)) (bk BK106) hb); have n6_ := Aside0.mk (below_step (bl HB) hb); clear HO105; clear HO110; clear BK101; clear BK106; clear HB; have HO105 := n0_; have HO110 := n1_; have HO115 := n2_; have HO117 := n3_; have BK101 := n4_; have BK106 := n5_; have HB := n6_; clear n0_ n1_ n2_ n3_ n4_ n5_ n6_; (try clear hb); (try clear hb2); (try clear hk); (try clear hi); (try clear ho0); (try clear ho1); have hcz18_0 : w17.cell? ⟨gb106, 0, none⟩ = some (.int .i64 t102) := (blk_cell BK106.out 0).trans rfl; have hcz18_1 : w17.cell? ⟨gb106, 1, none⟩ = some (.slice Ao14 t103.length co14) := (blk_cell BK106.out 1).trans rfl; have hfz18_0 := blk_frozen BK106.out 0; have hfz18_1 := blk_frozen BK106.out 1) | ((with_reducible refine gate_callee (f := 26) rfl ?_); refine gL 36 Try.func26 #[.agg #[.int .i64 t102, .slice Ao14 t103.length co14]] ?_; (with_reducible refine (Rw.gamplaw04_chordal.calls k t102 _ _ t103 t118 _ ?side1 ?side2 A5.out).mono ?_); (case side1 => exact cl ((Kd.R_reads' HO105.out).2.2)); (case side2 => exact (Kd.R_reads' HO105.out).2.1); rintro e w19 ⟨rfl, hb⟩; refine ⟨_, rfl, ?_⟩; have n0_ := Aside0.mk (Kd.R_below (rl HO105) hb); have n1_ := Aside0.mk (Kd.R_below (rl HO110) hb); have n2_ := Aside0.mk (Kd.R_below (rl HO115) hb); have n3_ := Aside0.mk (Kd.S_below (by (with_reducible repeat (first | apply Kd.S_alloc | apply Kd.S_drewN | apply Kd.S_drew)); exact HO117.out) hb); have n4_ := Aside0.mk (blk_below (g := gb101) (o := .cells #[.int .i64 a0_0, .slice A0_1 l0_1.length c0_1] 24 (0, 0)) (bk BK101) hb); have n5_ := Aside0.mk (blk_below (g := gb106) (o := .cells #[.int .i64 t102, .slice Ao14 t103.length co14] 24 (0, 0)) (bk BK106) hb); have n6_ := Aside0.mk (below_step (bl HB) hb); clear HO105; clear HO110; clear HO115; clear HO117; clear BK101; clear BK106; clear HB; have HO105 := n0_; have HO110 := n1_; have HO115 := n2_; have HO117 := n3_; have BK101 := n4_; have BK106 := n5_; have HB := n6_; clear n0_ n1_ n2_ n3_ n4_ n5_ n6_; (try clear hb); (try clear hb2); (try clear hk); (try clear hi)))
  (try simp only [Act.put, List.setIfInBounds_toArray, List.set_cons_zero, List.set_cons_succ])
  go_cut [98] (fun v98 wc => ∃ (kq : Nat) (x98_6 : Bool), v98 = .bool x98_6 ∧ Aside0 (gamplaw04_RibColors.j0 kq t107 t112 x98_6 t102 t103 = some r) ∧ Aside0 (kq ≤ k) ∧ Aside0 (Kd.R (Kd.int .i64) 3 wc w.heap.size (fun _ => True) v109 t107) ∧ Aside0 (Kd.S (Kd.slice 3 (Kd.int .i64)) 34 wc w.heap.size (fun k_ => some k_ ≠ (v109 : Value).ownBlock) v116 t112) ∧ Aside0 (Kd.R k52 52 wc w.heap.size (fun _ => True) (.slice Ao14 t103.length co14) t103) ∧ Aside0 (wc.heap[gb101]? = some (.cells #[.int .i64 a0_0, (.slice A0_1 l0_1.length c0_1)] 24 (0, 0))) ∧ Aside0 (wc.heap[gb106]? = some (.cells #[.int .i64 t102, (.slice Ao14 t103.length co14)] 24 (0, 0))) ∧ Aside0 (Below w.heap.size w wc))
  case first =>
   have H := HC7.out
   clear HC7
   by_cases c20 : t108 = 0
   ·rw [if_pos c20] at H
    have c20b0 : (t108 == 0) = true := beq_iff_eq.mpr c20
    have c20b1 : (t108 != 0) = false := bne_eq_false_iff_eq.mpr c20
    clear c20
    (first | rw [c20b0] | (simp only [i64_w, i32_w]; rw [c20b0]) | skip)
    by_cases c21 : t113 = 0
    ·rw [if_pos c21] at H
     have c21b0 : (t113 == 0) = true := beq_iff_eq.mpr c21
     have c21b1 : (t113 != 0) = false := bne_eq_false_iff_eq.mpr c21
     clear c21
     by_cases c22 : (t107.length : Int) = t102
     ·rw [if_pos c22] at H
      have c22b0 : ((t107.length : Int) == t102) = true := beq_iff_eq.mpr c22
      have c22b1 : ((t107.length : Int) != t102) = false := bne_eq_false_iff_eq.mpr c22
      clear c22
      by_cases c23 : (t111.length : Int) = (t112.length : Int)
      ·rw [if_pos c23] at H
       have c23b0 : ((t111.length : Int) == (t112.length : Int)) = true := beq_iff_eq.mpr c23
       have c23b1 : ((t111.length : Int) != (t112.length : Int)) = false := bne_eq_false_iff_eq.mpr c23
       have c23b2 : (t111.length == t112.length) = true := by first | simpa using c23 | (simp at c23 ⊢; omega)
       clear c23
       replace H := Option.bind_eq_some_iff.mp H
       obtain ⟨t120, A240, H⟩ := H
       replace H : (if t120 = true then ((Rg.gampref04_Free.f k t103 t111).bind fun t121 => (if t121 = true then ((Rx.gamplaw04_lives.f k).bind fun t122 => (gamplaw04_RibColors.j0 k t107 t112 (!t122) t102 t103)) else (gamplaw04_RibColors.j0 k t107 t112 true t102 t103))) else (gamplaw04_RibColors.j0 k t107 t112 true t102 t103)) = some r := H
       have A24 := Aside0.mk A240
       clear A240
       by_cases c25 : t120 = true
       ·subst c25
        have H1 : ((Rg.gampref04_Free.f k t103 t111).bind fun t121 => (if t121 = true then ((Rx.gamplaw04_lives.f k).bind fun t122 => (gamplaw04_RibColors.j0 k t107 t112 (!t122) t102 t103)) else (gamplaw04_RibColors.j0 k t107 t112 true t102 t103))) = some r := by rw [if_pos rfl] at H; exact H
        clear H
        have H := H1
        clear H1
        replace H := Option.bind_eq_some_iff.mp H
        obtain ⟨t121, A260, H⟩ := H
        replace H : (if t121 = true then ((Rx.gamplaw04_lives.f k).bind fun t122 => (gamplaw04_RibColors.j0 k t107 t112 (!t122) t102 t103)) else (gamplaw04_RibColors.j0 k t107 t112 true t102 t103)) = some r := H
        have A26 := Aside0.mk A260
        clear A260
        by_cases c27 : t121 = true
        ·subst c27
         have H1 : ((Rx.gamplaw04_lives.f k).bind fun t122 => (gamplaw04_RibColors.j0 k t107 t112 (!t122) t102 t103)) = some r := by rw [if_pos rfl] at H; exact H
         clear H
         have H := H1
         clear H1
         replace H := Option.bind_eq_some_iff.mp H
         obtain ⟨t122, A280, H⟩ := H
         replace H : (gamplaw04_RibColors.j0 k t107 t112 (!t122) t102 t103) = some r := H
         have A28 := Aside0.mk A280
         clear A280
         have H' := Aside0.mk H
         clear H
         obtain ⟨Ao29, co29, eo29⟩ := Kd.R_slice HO110.out
         subst eo29
         have hnb30 := NB106_101.out
         have hnc30 := NB101_106.out
         have hcz31_0 : w19.cell? ⟨gb106, 0, none⟩ = some (.int .i64 t102) := (blk_cell BK106.out 0).trans rfl
         have hcz31_1 : w19.cell? ⟨gb106, 1, none⟩ = some (.slice Ao14 t103.length co14) := (blk_cell BK106.out 1).trans rfl
         have hfz31_0 := blk_frozen BK106.out 0
         have hfz31_1 := blk_frozen BK106.out 1
         obtain ⟨Ao32, co32, eo32⟩ := Kd.R_slice HO115.out
         subst eo32
         obtain ⟨Ao33, co33, eo33⟩ := Kd.S_slice HO117.out
         subst eo33
         go_wp2_with (first | (go_at_call 35; (with_reducible refine (Rg.gamplaw04_rising.calls k _ _ t111 t102 true _ ?side1 ?side2 A24.out).mono ?_); (case side1 => exact cl ((Kd.R_reads' HO115.out).2.2)); (case side2 => exact (Kd.R_reads' HO115.out).2.1); rintro e w' ⟨rfl, ⟨nd, rfl⟩⟩) | (go_at_call 36; (with_reducible refine (Rg.gampref04_Free.calls k _ _ t103 _ _ t111 true _ ?side1 ?side2 ?side3 ?side4 A26.out).mono ?_); (case side1 => exact cl ((Kd.R_reads' HO105.out).2.2)); (case side2 => exact (Kd.R_reads' HO105.out).2.1); (case side3 => exact cl ((Kd.R_reads' HO115.out).2.2)); (case side4 => exact (Kd.R_reads' HO115.out).2.1); rintro e w34 ⟨rfl, hb⟩; have n0_ := Aside0.mk (Kd.R_below (rl HO105) hb); have n1_ := Aside0.mk (Kd.R_below (rl HO110) hb); have n2_ := Aside0.mk (Kd.R_below (rl HO115) hb); have n3_ := Aside0.mk (Kd.S_below (by (with_reducible repeat (first | apply Kd.S_alloc | apply Kd.S_drewN | apply Kd.S_drew)); exact HO117.out) hb); have n4_ := Aside0.mk (blk_below (g := gb101) (o := .cells #[.int .i64 a0_0, .slice A0_1 l0_1.length c0_1] 24 (0, 0)) (bk BK101) hb); have n5_ := Aside0.mk (blk_below (g := gb106) (o := .cells #[.int .i64 t102, .slice Ao14 t103.length co14] 24 (0, 0)) (bk BK106) hb); have n6_ := Aside0.mk (below_step (bl HB) hb); clear HO105; clear HO110; clear HO115; clear HO117; clear BK101; clear BK106; clear HB; have HO105 := n0_; have HO110 := n1_; have HO115 := n2_; have HO117 := n3_; have BK101 := n4_; have BK106 := n5_; have HB := n6_; clear n0_ n1_ n2_ n3_ n4_ n5_ n6_; (try clear hb); (try clear hb2); (try clear hk); (try clear hi)) | (go_at_call 18; (with_reducible refine (Rx.gamplaw04_lives.calls k  t122 _ A28.out).mono ?_); rintro e w35 ⟨rfl, hb⟩; have n0_ := Aside0.mk (Kd.R_below (rl HO105) hb); have n1_ := Aside0.mk (Kd.R_below (rl HO110) hb); have n2_ := Aside0.mk (Kd.R_below (rl HO115) hb); have n3_ := Aside0.mk (Kd.S_below (by (with_reducible repeat (first | apply Kd.S_alloc | apply Kd.S_drewN | apply Kd.S_drew)); exact HO117.out) hb); have n4_ := Aside0.mk (blk_below (g := gb101) (o := .cells #[.int .i64 a0_0, .slice A0_1 l0_1.length c0_1] 24 (0, 0)) (bk BK101) hb); have n5_ := Aside0.mk (blk_below (g := gb106) (o := .cells #[.int .i64 t102, .slice Ao14 t103.length co14] 24 (0, 0)) (bk BK106) hb); have n6_ := Aside0.mk (below_step (bl HB) hb); clear HO105; clear HO110; clear HO115; clear HO117; clear BK101; clear BK106; clear HB; have HO105 := n0_; have HO110 := n1_; have HO115 := n2_; have HO117 := n3_; have BK101 := n4_; have BK106 := n5_; have HB := n6_; clear n0_ n1_ n2_ n3_ n4_ n5_ n6_; (try clear hb); (try clear hb2); (try clear hk); (try clear hi)))
         go_meet
         case rel => exact ⟨_, (!t122), (by first | rfl | (simp; done) | (simp [*]; done)), H', ⟨by first | omega | exact Nat.le_refl _⟩, ⟨by (with_reducible repeat (first | apply Kd.R_alloc | apply Kd.R_drewN | apply Kd.R_drew)); exact Kd.R_mono HO110.out (fun _ hk => trivial)⟩, ⟨by (with_reducible repeat (first | apply Kd.S_alloc | apply Kd.S_drewN | apply Kd.S_drew)); exact Kd.S_mono HO117.out (fun _ hk => hk.2)⟩, ⟨rl HO105⟩, ⟨bk BK101⟩, ⟨bk BK106⟩, ⟨bl HB⟩⟩
        ·replace c27 := Bool.eq_false_iff.mpr c27
         subst c27
         have H1 : (gamplaw04_RibColors.j0 k t107 t112 true t102 t103) = some r := by rw [if_neg (show ¬ (false = true) by decide)] at H; exact H
         clear H
         have H := H1
         clear H1
         have H' := Aside0.mk H
         clear H
         obtain ⟨Ao36, co36, eo36⟩ := Kd.R_slice HO110.out
         subst eo36
         have hnb37 := NB106_101.out
         have hnc37 := NB101_106.out
         have hcz38_0 : w19.cell? ⟨gb106, 0, none⟩ = some (.int .i64 t102) := (blk_cell BK106.out 0).trans rfl
         have hcz38_1 : w19.cell? ⟨gb106, 1, none⟩ = some (.slice Ao14 t103.length co14) := (blk_cell BK106.out 1).trans rfl
         have hfz38_0 := blk_frozen BK106.out 0
         have hfz38_1 := blk_frozen BK106.out 1
         obtain ⟨Ao39, co39, eo39⟩ := Kd.R_slice HO115.out
         subst eo39
         obtain ⟨Ao40, co40, eo40⟩ := Kd.S_slice HO117.out
         subst eo40
         go_wp2_with (first | (go_at_call 35; (with_reducible refine (Rg.gamplaw04_rising.calls k _ _ t111 t102 true _ ?side1 ?side2 A24.out).mono ?_); (case side1 => exact cl ((Kd.R_reads' HO115.out).2.2)); (case side2 => exact (Kd.R_reads' HO115.out).2.1); rintro e w' ⟨rfl, ⟨nd, rfl⟩⟩) | (go_at_call 36; (with_reducible refine (Rg.gampref04_Free.calls k _ _ t103 _ _ t111 false _ ?side1 ?side2 ?side3 ?side4 A26.out).mono ?_); (case side1 => exact cl ((Kd.R_reads' HO105.out).2.2)); (case side2 => exact (Kd.R_reads' HO105.out).2.1); (case side3 => exact cl ((Kd.R_reads' HO115.out).2.2)); (case side4 => exact (Kd.R_reads' HO115.out).2.1); rintro e w41 ⟨rfl, hb⟩; have n0_ := Aside0.mk (Kd.R_below (rl HO105) hb); have n1_ := Aside0.mk (Kd.R_below (rl HO110) hb); have n2_ := Aside0.mk (Kd.R_below (rl HO115) hb); have n3_ := Aside0.mk (Kd.S_below (by (with_reducible repeat (first | apply Kd.S_alloc | apply Kd.S_drewN | apply Kd.S_drew)); exact HO117.out) hb); have n4_ := Aside0.mk (blk_below (g := gb101) (o := .cells #[.int .i64 a0_0, .slice A0_1 l0_1.length c0_1] 24 (0, 0)) (bk BK101) hb); have n5_ := Aside0.mk (blk_below (g := gb106) (o := .cells #[.int .i64 t102, .slice Ao14 t103.length co14] 24 (0, 0)) (bk BK106) hb); have n6_ := Aside0.mk (below_step (bl HB) hb); clear HO105; clear HO110; clear HO115; clear HO117; clear BK101; clear BK106; clear HB; have HO105 := n0_; have HO110 := n1_; have HO115 := n2_; have HO117 := n3_; have BK101 := n4_; have BK106 := n5_; have HB := n6_; clear n0_ n1_ n2_ n3_ n4_ n5_ n6_; (try clear hb); (try clear hb2); (try clear hk); (try clear hi)))
         go_meet
         case rel => exact ⟨_, (true), (by first | rfl | (simp; done) | (simp [*]; done)), H', ⟨by first | omega | exact Nat.le_refl _⟩, ⟨by (with_reducible repeat (first | apply Kd.R_alloc | apply Kd.R_drewN | apply Kd.R_drew)); exact Kd.R_mono HO110.out (fun _ hk => trivial)⟩, ⟨by (with_reducible repeat (first | apply Kd.S_alloc | apply Kd.S_drewN | apply Kd.S_drew)); exact Kd.S_mono HO117.out (fun _ hk => hk.2)⟩, ⟨rl HO105⟩, ⟨bk BK101⟩, ⟨bk BK106⟩, ⟨bl HB⟩⟩
       ·replace c25 := Bool.eq_false_iff.mpr c25
        subst c25
        have H1 : (gamplaw04_RibColors.j0 k t107 t112 true t102 t103) = some r := by rw [if_neg (show ¬ (false = true) by decide)] at H; exact H
        clear H
        have H := H1
        clear H1
        have H' := Aside0.mk H
        clear H
        obtain ⟨Ao42, co42, eo42⟩ := Kd.R_slice HO110.out
        subst eo42
        have hnb43 := NB106_101.out
        have hnc43 := NB101_106.out
        have hcz44_0 : w19.cell? ⟨gb106, 0, none⟩ = some (.int .i64 t102) := (blk_cell BK106.out 0).trans rfl
        have hcz44_1 : w19.cell? ⟨gb106, 1, none⟩ = some (.slice Ao14 t103.length co14) := (blk_cell BK106.out 1).trans rfl
        have hfz44_0 := blk_frozen BK106.out 0
        have hfz44_1 := blk_frozen BK106.out 1
        obtain ⟨Ao45, co45, eo45⟩ := Kd.R_slice HO115.out
        subst eo45
        obtain ⟨Ao46, co46, eo46⟩ := Kd.S_slice HO117.out
        subst eo46
        go_wp2_with (first | (go_at_call 35; (with_reducible refine (Rg.gamplaw04_rising.calls k _ _ t111 t102 false _ ?side1 ?side2 A24.out).mono ?_); (case side1 => exact cl ((Kd.R_reads' HO115.out).2.2)); (case side2 => exact (Kd.R_reads' HO115.out).2.1); rintro e w' ⟨rfl, ⟨nd, rfl⟩⟩))
        go_meet
        case rel => exact ⟨_, (true), (by first | rfl | (simp; done) | (simp [*]; done)), H', ⟨by first | omega | exact Nat.le_refl _⟩, ⟨by (with_reducible repeat (first | apply Kd.R_alloc | apply Kd.R_drewN | apply Kd.R_drew)); exact Kd.R_mono HO110.out (fun _ hk => trivial)⟩, ⟨by (with_reducible repeat (first | apply Kd.S_alloc | apply Kd.S_drewN | apply Kd.S_drew)); exact Kd.S_mono HO117.out (fun _ hk => hk.2)⟩, ⟨rl HO105⟩, ⟨bk BK101⟩, ⟨bk BK106⟩, ⟨bl HB⟩⟩
      ·rw [if_neg c23] at H
       have c23b0 : ((t111.length : Int) == (t112.length : Int)) = false := beq_eq_false_iff_ne.mpr c23
       have c23b1 : ((t111.length : Int) != (t112.length : Int)) = true := bne_iff_ne.mpr c23
       have c23b2 : (t111.length == t112.length) = false := by first | simpa using c23 | (simp at c23 ⊢; omega)
       have H' := Aside0.mk H
       clear H
       obtain ⟨Ao47, co47, eo47⟩ := Kd.R_slice HO110.out
       subst eo47
       have hnb48 := NB106_101.out
       have hnc48 := NB101_106.out
       have hcz49_0 : w19.cell? ⟨gb106, 0, none⟩ = some (.int .i64 t102) := (blk_cell BK106.out 0).trans rfl
       have hcz49_1 : w19.cell? ⟨gb106, 1, none⟩ = some (.slice Ao14 t103.length co14) := (blk_cell BK106.out 1).trans rfl
       have hfz49_0 := blk_frozen BK106.out 0
       have hfz49_1 := blk_frozen BK106.out 1
       obtain ⟨Ao50, co50, eo50⟩ := Kd.R_slice HO115.out
       subst eo50
       obtain ⟨Ao51, co51, eo51⟩ := Kd.S_slice HO117.out
       subst eo51
       go_wp2
       go_meet
       case rel => exact ⟨_, (true), (by first | rfl | (simp; done) | (simp [*]; done)), H', ⟨by first | omega | exact Nat.le_refl _⟩, ⟨by (with_reducible repeat (first | apply Kd.R_alloc | apply Kd.R_drewN | apply Kd.R_drew)); exact Kd.R_mono HO110.out (fun _ hk => trivial)⟩, ⟨by (with_reducible repeat (first | apply Kd.S_alloc | apply Kd.S_drewN | apply Kd.S_drew)); exact Kd.S_mono HO117.out (fun _ hk => hk.2)⟩, ⟨rl HO105⟩, ⟨bk BK101⟩, ⟨bk BK106⟩, ⟨bl HB⟩⟩
     ·rw [if_neg c22] at H
      have c22b0 : ((t107.length : Int) == t102) = false := beq_eq_false_iff_ne.mpr c22
      have c22b1 : ((t107.length : Int) != t102) = true := bne_iff_ne.mpr c22
      have H' := Aside0.mk H
      clear H
      obtain ⟨Ao52, co52, eo52⟩ := Kd.R_slice HO110.out
      subst eo52
      have hnb53 := NB106_101.out
      have hnc53 := NB101_106.out
      have hcz54_0 : w19.cell? ⟨gb106, 0, none⟩ = some (.int .i64 t102) := (blk_cell BK106.out 0).trans rfl
      have hcz54_1 : w19.cell? ⟨gb106, 1, none⟩ = some (.slice Ao14 t103.length co14) := (blk_cell BK106.out 1).trans rfl
      have hfz54_0 := blk_frozen BK106.out 0
      have hfz54_1 := blk_frozen BK106.out 1
      go_wp2
      go_meet
      case rel => exact ⟨_, (true), (by first | rfl | (simp; done) | (simp [*]; done)), H', ⟨by first | omega | exact Nat.le_refl _⟩, ⟨by (with_reducible repeat (first | apply Kd.R_alloc | apply Kd.R_drewN | apply Kd.R_drew)); exact Kd.R_mono HO110.out (fun _ hk => trivial)⟩, ⟨by (with_reducible repeat (first | apply Kd.S_alloc | apply Kd.S_drewN | apply Kd.S_drew)); exact Kd.S_mono HO117.out (fun _ hk => hk.2)⟩, ⟨rl HO105⟩, ⟨bk BK101⟩, ⟨bk BK106⟩, ⟨bl HB⟩⟩
    ·rw [if_neg c21] at H
     have c21b0 : (t113 == 0) = false := beq_eq_false_iff_ne.mpr c21
     have c21b1 : (t113 != 0) = true := bne_iff_ne.mpr c21
     have H' := Aside0.mk H
     clear H
     go_wp2
     go_meet
     case rel => exact ⟨_, (true), (by first | rfl | (simp; done) | (simp [*]; done)), H', ⟨by first | omega | exact Nat.le_refl _⟩, ⟨by (with_reducible repeat (first | apply Kd.R_alloc | apply Kd.R_drewN | apply Kd.R_drew)); exact Kd.R_mono HO110.out (fun _ hk => trivial)⟩, ⟨by (with_reducible repeat (first | apply Kd.S_alloc | apply Kd.S_drewN | apply Kd.S_drew)); exact Kd.S_mono HO117.out (fun _ hk => hk.2)⟩, ⟨rl HO105⟩, ⟨bk BK101⟩, ⟨bk BK106⟩, ⟨bl HB⟩⟩
   ·rw [if_neg c20] at H
    have c20b0 : (t108 == 0) = false := beq_eq_false_iff_ne.mpr c20
    have c20b1 : (t108 != 0) = true := bne_iff_ne.mpr c20
    (first | rw [c20b0] | (simp only [i64_w, i32_w]; rw [c20b0]) | skip)
    have H' := Aside0.mk H
    clear H
    go_wp2
    go_meet
    case rel => exact ⟨_, (true), (by first | rfl | (simp; done) | (simp [*]; done)), H', ⟨by first | omega | exact Nat.le_refl _⟩, ⟨by (with_reducible repeat (first | apply Kd.R_alloc | apply Kd.R_drewN | apply Kd.R_drew)); exact Kd.R_mono HO110.out (fun _ hk => trivial)⟩, ⟨by (with_reducible repeat (first | apply Kd.S_alloc | apply Kd.S_drewN | apply Kd.S_drew)); exact Kd.S_mono HO117.out (fun _ hk => hk.2)⟩, ⟨rl HO105⟩, ⟨bk BK101⟩, ⟨bk BK106⟩, ⟨bl HB⟩⟩
  case rest =>
   clear HC7
   try clear c1
   try clear c2
   try clear p2
   try clear c3
   try clear c4
   try clear c5
   try clear c6
   try clear c6b0
   try clear c6b1
   try clear p6
   try clear c7
   try clear c12
   try clear c15
   try clear c20
   try clear c20b0
   try clear c20b1
   try clear c21
   try clear c21b0
   try clear c21b1
   try clear c22
   try clear c22b0
   try clear c22b1
   try clear c23
   try clear c23b0
   try clear c23b1
   try clear c23b2
   try clear c25
   try clear c26
   try clear c27
   try clear c30
   try clear c33
   try clear c34
   try clear c37
   try clear c43
   try clear c48
   try clear c53
   try clear hcz13_0
   try clear hcz13_1
   try clear hcz16_0
   try clear hcz16_1
   try clear hcz18_0
   try clear hcz18_1
   try clear hcz31_0
   try clear hcz31_1
   try clear hcz38_0
   try clear hcz38_1
   try clear hcz44_0
   try clear hcz44_1
   try clear hcz49_0
   try clear hcz49_1
   try clear hcz54_0
   try clear hcz54_1
   try clear hcz9_0
   try clear hcz9_1
   try clear hfz13_0
   try clear hfz13_1
   try clear hfz16_0
   try clear hfz16_1
   try clear hfz18_0
   try clear hfz18_1
   try clear hfz31_0
   try clear hfz31_1
   try clear hfz38_0
   try clear hfz38_1
   try clear hfz44_0
   try clear hfz44_1
   try clear hfz49_0
   try clear hfz49_1
   try clear hfz54_0
   try clear hfz54_1
   try clear hfz9_0
   try clear hfz9_1
   obtain ⟨kq, x98_6, rfl, HA, HJ6, HO_4, HO_7, HO_107001, BK101, BK106, HB⟩ := hcut
   cases kq with
   | zero => exact absurd HA.out (by simp [gamplaw04_RibColors.j0])
   | succ kj6 =>
    have H := HA.out
    clear HA
    simp only [gamplaw04_RibColors.j0] at H
    by_cases c55 : x98_6 = true
    ·subst c55
     have H1 : (some false) = some r := by rw [if_pos rfl] at H; exact H
     clear H
     have H := H1
     clear H1
     rw [hrt] at H
     cases H
    ·replace c55 := Bool.eq_false_iff.mpr c55
     subst c55
     have H1 : ((Rg.gampref04_Most.f kj6 t102 t103).bind fun t123 => (gamplaw04_RibColors.l0 kj6 t107 t112 t123 0 t102 t103)) = some r := by rw [if_neg (show ¬ (false = true) by decide)] at H; exact H
     clear H
     have H := H1
     clear H1
     replace H := Option.bind_eq_some_iff.mp H
     obtain ⟨t123, A560, H⟩ := H
     replace H : (gamplaw04_RibColors.l0 kj6 t107 t112 t123 0 t102 t103) = some r := H
     have A56 := Aside0.mk A560
     clear A560
     have H' := Aside0.mk H
     clear H
     have hnb57 := NB106_101.out
     have hnc57 := NB101_106.out
     have hcz58_0 : wc.cell? ⟨gb106, 0, none⟩ = some (.int .i64 t102) := (blk_cell BK106.out 0).trans rfl
     have hcz58_1 : wc.cell? ⟨gb106, 1, none⟩ = some (.slice Ao14 t103.length co14) := (blk_cell BK106.out 1).trans rfl
     have hfz58_0 := blk_frozen BK106.out 0
     have hfz58_1 := blk_frozen BK106.out 1
     go_wp2_with (first | ((with_reducible refine gate_callee (f := 37) rfl ?_); refine gL 103 Try.func37 #[.int .i64 t102, .slice Ao14 t103.length co14] ?_; (with_reducible refine (Rg.gampref04_Most.calls kj6 t102 _ _ t103 t123 _ ?side1 ?side2 A56.out).mono ?_); (case side1 => exact cl ((Kd.R_reads' HO_107001.out).2.2)); (case side2 => exact (Kd.R_reads' HO_107001.out).2.1); rintro e w59 ⟨rfl, hb⟩; refine ⟨_, rfl, ?_⟩; have n0_ := Aside0.mk (Kd.R_below (rl HO_4) hb); have n1_ := Aside0.mk (Kd.S_below (by (with_reducible repeat (first | apply Kd.S_alloc | apply Kd.S_drewN | apply Kd.S_drew)); exact HO_7.out) hb); have n2_ := Aside0.mk (Kd.R_below (rl HO_107001) hb); have n3_ := Aside0.mk (blk_below (g := gb101) (o := .cells #[.int .i64 a0_0, .slice A0_1 l0_1.length c0_1] 24 (0, 0)) (bk BK101) hb); have n4_ := Aside0.mk (blk_below (g := gb106) (o := .cells #[.int .i64 t102, .slice Ao14 t103.length co14] 24 (0, 0)) (bk BK106) hb); have n5_ := Aside0.mk (below_step (bl HB) hb); clear HO_4; clear HO_7; clear HO_107001; clear BK101; clear BK106; clear HB; have HO_4 := n0_; have HO_7 := n1_; have HO_107001 := n2_; have BK101 := n3_; have BK106 := n4_; have HB := n5_; clear n0_ n1_ n2_ n3_ n4_ n5_; (try clear hb); (try clear hb2); (try clear hk); (try clear hi)))
     go_loopg [11] kj6 (fun kq v11 w' => ∃ (x11_2 : Int), v11 = .int .i64 x11_2 ∧ Aside0 (gamplaw04_RibColors.l0 kq t107 t112 t123 x11_2 t102 t103 = some r) ∧ Aside0 (kq ≤ kj6) ∧ Aside0 (Kd.R (Kd.int .i64) 3 w' w.heap.size (fun _ => True) v109 t107) ∧ Aside0 (Kd.S (Kd.slice 3 (Kd.int .i64)) 34 w' w.heap.size (fun k_ => some k_ ≠ (v109 : Value).ownBlock) v116 t112) ∧ Aside0 (Kd.R k52 52 w' w.heap.size (fun _ => True) (.slice Ao14 t103.length co14) t103) ∧ Aside0 (w'.heap[gb101]? = some (.cells #[.int .i64 a0_0, (.slice A0_1 l0_1.length c0_1)] 24 (0, 0))) ∧ Aside0 (w'.heap[gb106]? = some (.cells #[.int .i64 t102, (.slice Ao14 t103.length co14)] 24 (0, 0))) ∧ Aside0 (Below w.heap.size w w'))
     case atStart => exact ⟨(0), (by first | rfl | (simp; done) | (simp [*]; done)), H', ⟨Nat.le_refl _⟩, ⟨rl HO_4⟩, ⟨by (with_reducible repeat (first | apply Kd.S_alloc | apply Kd.S_drewN | apply Kd.S_drew)); exact HO_7.out⟩, ⟨rl HO_107001⟩, ⟨bk BK101⟩, ⟨bk BK106⟩, ⟨bl HB⟩⟩
     case round =>
      clear H'
      try clear c1
      try clear c2
      try clear p2
      try clear c3
      try clear c4
      try clear c5
      try clear c6
      try clear c6b0
      try clear c6b1
      try clear p6
      try clear c7
      try clear c12
      try clear c15
      try clear c20
      try clear c20b0
      try clear c20b1
      try clear c21
      try clear c21b0
      try clear c21b1
      try clear c22
      try clear c22b0
      try clear c22b1
      try clear c23
      try clear c23b0
      try clear c23b1
      try clear c23b2
      try clear c25
      try clear c26
      try clear c27
      try clear c30
      try clear c33
      try clear c34
      try clear c37
      try clear c43
      try clear c48
      try clear c53
      try clear c55
      try clear c57
      try clear hcz13_0
      try clear hcz13_1
      try clear hcz16_0
      try clear hcz16_1
      try clear hcz18_0
      try clear hcz18_1
      try clear hcz31_0
      try clear hcz31_1
      try clear hcz38_0
      try clear hcz38_1
      try clear hcz44_0
      try clear hcz44_1
      try clear hcz49_0
      try clear hcz49_1
      try clear hcz54_0
      try clear hcz54_1
      try clear hcz58_0
      try clear hcz58_1
      try clear hcz9_0
      try clear hcz9_1
      try clear hfz13_0
      try clear hfz13_1
      try clear hfz16_0
      try clear hfz16_1
      try clear hfz18_0
      try clear hfz18_1
      try clear hfz31_0
      try clear hfz31_1
      try clear hfz38_0
      try clear hfz38_1
      try clear hfz44_0
      try clear hfz44_1
      try clear hfz49_0
      try clear hfz49_1
      try clear hfz54_0
      try clear hfz54_1
      try clear hfz58_0
      try clear hfz58_1
      try clear hfz9_0
      try clear hfz9_1
      try clear p2
      try clear p6
      obtain ⟨x11_2, rfl, HA, HK2, HO_4, HO_7, HO_107001, BK101, BK106, HB⟩ := hrel
      cases gk with
      | zero => exact absurd HA.out (by simp [gamplaw04_RibColors.l0])
      | succ k2 =>
       have H := HA.out
       clear HA
       simp only [gamplaw04_RibColors.l0] at H
       by_cases c60 : x11_2 < t102
       ·rw [if_pos c60] at H
        have c60b0 : decide (x11_2 < t102) = true := decide_eq_true c60
        clear c60
        have HC61 := Aside0.mk H
        clear H
        have hnb62 := NB106_101.out
        have hnc62 := NB101_106.out
        have hcz63_0 : wr.cell? ⟨gb106, 0, none⟩ = some (.int .i64 t102) := (blk_cell BK106.out 0).trans rfl
        have hcz63_1 : wr.cell? ⟨gb106, 1, none⟩ = some (.slice Ao14 t103.length co14) := (blk_cell BK106.out 1).trans rfl
        have hfz63_0 := blk_frozen BK106.out 0
        have hfz63_1 := blk_frozen BK106.out 1
        go_upto_region 13 with (fail)
        go_cut [122] (fun v122 wc => ∃ (kq : Nat) (x122_60 : Bool), v122 = .bool x122_60 ∧ Aside0 (gamplaw04_RibColors.j2 kq t107 t112 t123 x11_2 x122_60 t102 t103 = some r) ∧ Aside0 (kq ≤ k2) ∧ Aside0 (Kd.R (Kd.int .i64) 3 wc w.heap.size (fun _ => True) v109 t107) ∧ Aside0 (Kd.S (Kd.slice 3 (Kd.int .i64)) 34 wc w.heap.size (fun k_ => some k_ ≠ (v109 : Value).ownBlock) v116 t112) ∧ Aside0 (Kd.R k52 52 wc w.heap.size (fun _ => True) (.slice Ao14 t103.length co14) t103) ∧ Aside0 (wc.heap[gb101]? = some (.cells #[.int .i64 a0_0, (.slice A0_1 l0_1.length c0_1)] 24 (0, 0))) ∧ Aside0 (wc.heap[gb106]? = some (.cells #[.int .i64 t102, (.slice Ao14 t103.length co14)] 24 (0, 0))) ∧ Aside0 (Below w.heap.size w wc))
        case first =>
         have H := HC61.out
         clear HC61
         by_cases c64 : 0 ≤ x11_2
         ·rw [if_pos c64] at H
          have c64b0 : decide (0 ≤ x11_2) = true := decide_eq_true c64
          clear c64
          (first | rw [c64b0] | (simp only [i64_w, i32_w]; rw [c64b0]) | skip)
          by_cases c65 : x11_2 < (t107.length : Int)
          ·rw [if_pos c65] at H
           have c65b0 : decide (x11_2 < (t107.length : Int)) = true := decide_eq_true c65
           clear c65
           by_cases c66 : (rd t107 x11_2) < 0
           ·rw [if_pos c66] at H
            have c66b0 : decide ((rd t107 x11_2) < 0) = true := decide_eq_true c66
            clear c66
            have H' := Aside0.mk H
            clear H
            obtain ⟨Ao67, co67, eo67⟩ := Kd.R_slice HO_4.out
            subst eo67
            have p124 : 0 ≤ (x11_2 : Int) := ofd
            have q124 : x11_2 < (t107.length : Int) := ofd
            obtain ⟨ad124, e124, hx124_0⟩ := Kd.at_int (Kd.R_reads' HO_4.out).2.2 x11_2 p124 q124
            cases e124
            replace p124 := eq_true p124
            replace q124 := eq_true q124
            go_wp2
            go_meet
            case rel => exact ⟨_, (true), (by first | rfl | (simp; done) | (simp [*]; done)), H', ⟨by have := HJ6.out; have := HK2.out; first | omega | exact Nat.le_refl _⟩, ⟨rl HO_4⟩, ⟨by (with_reducible repeat (first | apply Kd.S_alloc | apply Kd.S_drewN | apply Kd.S_drew)); exact HO_7.out⟩, ⟨rl HO_107001⟩, ⟨bk BK101⟩, ⟨bk BK106⟩, ⟨bl HB⟩⟩
           ·rw [if_neg c66] at H
            have c66b0 : decide ((rd t107 x11_2) < 0) = false := decide_eq_false c66
            clear c66
            have H' := Aside0.mk H
            clear H
            obtain ⟨Ao68, co68, eo68⟩ := Kd.R_slice HO_4.out
            subst eo68
            have p124 : 0 ≤ (x11_2 : Int) := ofd
            have q124 : x11_2 < (t107.length : Int) := ofd
            obtain ⟨ad124, e124, hx124_0⟩ := Kd.at_int (Kd.R_reads' HO_4.out).2.2 x11_2 p124 q124
            cases e124
            replace p124 := eq_true p124
            replace q124 := eq_true q124
            have p125 : 0 ≤ (x11_2 : Int) := ofd
            have q125 : x11_2 < (t107.length : Int) := ofd
            obtain ⟨ad125, e125, hx125_0⟩ := Kd.at_int (Kd.R_reads' HO_4.out).2.2 x11_2 p125 q125
            obtain rfl : ad124 = ad125 := (by injection e125)
            replace p125 := eq_true p125
            replace q125 := eq_true q125
            go_wp2
            go_meet
            case rel => exact ⟨_, (decide ((rd t107 x11_2) ≥ t123)), (by first | rfl | (simp; done) | (simp [*]; done)), H', ⟨by have := HJ6.out; have := HK2.out; first | omega | exact Nat.le_refl _⟩, ⟨rl HO_4⟩, ⟨by (with_reducible repeat (first | apply Kd.S_alloc | apply Kd.S_drewN | apply Kd.S_drew)); exact HO_7.out⟩, ⟨rl HO_107001⟩, ⟨bk BK101⟩, ⟨bk BK106⟩, ⟨bl HB⟩⟩
          ·rw [if_neg c65] at H
           exact absurd H (by simp)
         ·rw [if_neg c64] at H
          exact absurd H (by simp)
        case rest =>
         clear HC61
         try clear c1
         try clear p1
         try clear q1
         try clear hx1
         try clear c2
         try clear p2
         try clear c3
         try clear c4
         try clear c5
         try clear c6
         try clear c6b0
         try clear c6b1
         try clear p6
         try clear c7
         try clear c12
         try clear p12
         try clear q12
         try clear hx12
         try clear c15
         try clear c20
         try clear c20b0
         try clear c20b1
         try clear c21
         try clear c21b0
         try clear c21b1
         try clear c22
         try clear c22b0
         try clear c22b1
         try clear c23
         try clear c23b0
         try clear c23b1
         try clear c23b2
         try clear c25
         try clear c26
         try clear c27
         try clear c30
         try clear c33
         try clear c34
         try clear c37
         try clear c43
         try clear c48
         try clear c53
         try clear c55
         try clear c57
         try clear c60
         try clear c60b0
         try clear c62
         try clear c64
         try clear c64b0
         try clear p64
         try clear c65
         try clear c65b0
         try clear c66
         try clear c66b0
         try clear hcz13_0
         try clear hcz13_1
         try clear hcz16_0
         try clear hcz16_1
         try clear hcz18_0
         try clear hcz18_1
         try clear hcz31_0
         try clear hcz31_1
         try clear hcz38_0
         try clear hcz38_1
         try clear hcz44_0
         try clear hcz44_1
         try clear hcz49_0
         try clear hcz49_1
         try clear hcz54_0
         try clear hcz54_1
         try clear hcz58_0
         try clear hcz58_1
         try clear hcz63_0
         try clear hcz63_1
         try clear hcz9_0
         try clear hcz9_1
         try clear hfz13_0
         try clear hfz13_1
         try clear hfz16_0
         try clear hfz16_1
         try clear hfz18_0
         try clear hfz18_1
         try clear hfz31_0
         try clear hfz31_1
         try clear hfz38_0
         try clear hfz38_1
         try clear hfz44_0
         try clear hfz44_1
         try clear hfz49_0
         try clear hfz49_1
         try clear hfz54_0
         try clear hfz54_1
         try clear hfz58_0
         try clear hfz58_1
         try clear hfz63_0
         try clear hfz63_1
         try clear hfz9_0
         try clear hfz9_1
         try clear hx124_0
         try clear hx125_0
         try clear p124
         try clear p125
         try clear p2
         try clear p6
         try clear q124
         try clear q125
         obtain ⟨kq, x122_60, rfl, HA, HJ60, HO_4, HO_7, HO_107001, BK101, BK106, HB⟩ := hcut
         cases kq with
         | zero => exact absurd HA.out (by simp [gamplaw04_RibColors.j2])
         | succ kj60 =>
          have H := HA.out
          clear HA
          simp only [gamplaw04_RibColors.j2] at H
          by_cases c69 : x122_60 = true
          ·subst c69
           have H1 : (some false) = some r := by rw [if_pos rfl] at H; exact H
           clear H
           have H := H1
           clear H1
           rw [hrt] at H
           cases H
          ·replace c69 := Bool.eq_false_iff.mpr c69
           subst c69
           have H1 : (gamplaw04_RibColors.l1 kj60 t107 t112 t123 x11_2 false 0 t102 t103) = some r := by rw [if_neg (show ¬ (false = true) by decide)] at H; exact H
           clear H
           have H := H1
           clear H1
           have H' := Aside0.mk H
           clear H
           go_wp2
           go_loopg [12, 13] kj60 (fun kq v12 v13 w' => ∃ (x12_4 : Bool) (x13_4 : Int), v12 = .bool x12_4 ∧ v13 = .int .i64 x13_4 ∧ Aside0 (gamplaw04_RibColors.l1 kq t107 t112 t123 x11_2 x12_4 x13_4 t102 t103 = some r) ∧ Aside0 (kq ≤ kj60) ∧ Aside0 (Kd.R (Kd.int .i64) 3 w' w.heap.size (fun _ => True) v109 t107) ∧ Aside0 (Kd.S (Kd.slice 3 (Kd.int .i64)) 34 w' w.heap.size (fun k_ => some k_ ≠ (v109 : Value).ownBlock) v116 t112) ∧ Aside0 (Kd.R k52 52 w' w.heap.size (fun _ => True) (.slice Ao14 t103.length co14) t103) ∧ Aside0 (w'.heap[gb101]? = some (.cells #[.int .i64 a0_0, (.slice A0_1 l0_1.length c0_1)] 24 (0, 0))) ∧ Aside0 (w'.heap[gb106]? = some (.cells #[.int .i64 t102, (.slice Ao14 t103.length co14)] 24 (0, 0))) ∧ Aside0 (Below w.heap.size w w'))
           case atStart => exact ⟨(false), (0), (by first | rfl | (simp; done) | (simp [*]; done)), (by first | rfl | (simp; done) | (simp [*]; done)), H', ⟨Nat.le_refl _⟩, ⟨rl HO_4⟩, ⟨by (with_reducible repeat (first | apply Kd.S_alloc | apply Kd.S_drewN | apply Kd.S_drew)); exact HO_7.out⟩, ⟨rl HO_107001⟩, ⟨bk BK101⟩, ⟨bk BK106⟩, ⟨bl HB⟩⟩
           case round =>
            clear H'
            try clear c1
            try clear p1
            try clear q1
            try clear hx1
            try clear c2
            try clear p2
            try clear c3
            try clear c4
            try clear c5
            try clear c6
            try clear c6b0
            try clear c6b1
            try clear p6
            try clear c7
            try clear c12
            try clear p12
            try clear q12
            try clear hx12
            try clear c15
            try clear c20
            try clear c20b0
            try clear c20b1
            try clear c21
            try clear c21b0
            try clear c21b1
            try clear c22
            try clear c22b0
            try clear c22b1
            try clear c23
            try clear c23b0
            try clear c23b1
            try clear c23b2
            try clear c25
            try clear c26
            try clear c27
            try clear c30
            try clear c33
            try clear c34
            try clear c37
            try clear c43
            try clear c48
            try clear c53
            try clear c55
            try clear c57
            try clear c60
            try clear c60b0
            try clear c62
            try clear c64
            try clear c64b0
            try clear p64
            try clear c65
            try clear c65b0
            try clear c66
            try clear c66b0
            try clear c69
            try clear hcz13_0
            try clear hcz13_1
            try clear hcz16_0
            try clear hcz16_1
            try clear hcz18_0
            try clear hcz18_1
            try clear hcz31_0
            try clear hcz31_1
            try clear hcz38_0
            try clear hcz38_1
            try clear hcz44_0
            try clear hcz44_1
            try clear hcz49_0
            try clear hcz49_1
            try clear hcz54_0
            try clear hcz54_1
            try clear hcz58_0
            try clear hcz58_1
            try clear hcz63_0
            try clear hcz63_1
            try clear hcz9_0
            try clear hcz9_1
            try clear hfz13_0
            try clear hfz13_1
            try clear hfz16_0
            try clear hfz16_1
            try clear hfz18_0
            try clear hfz18_1
            try clear hfz31_0
            try clear hfz31_1
            try clear hfz38_0
            try clear hfz38_1
            try clear hfz44_0
            try clear hfz44_1
            try clear hfz49_0
            try clear hfz49_1
            try clear hfz54_0
            try clear hfz54_1
            try clear hfz58_0
            try clear hfz58_1
            try clear hfz63_0
            try clear hfz63_1
            try clear hfz9_0
            try clear hfz9_1
            try clear hx124_0
            try clear hx125_0
            try clear p1
            try clear p12
            try clear p124
            try clear p125
            try clear p2
            try clear p6
            try clear p64
            try clear q1
            try clear q12
            try clear q124
            try clear q125
            obtain ⟨x12_4, x13_4, rfl, rfl, HA, HK4, HO_4, HO_7, HO_107001, BK101, BK106, HB⟩ := hrel
            cases gk with
            | zero => exact absurd HA.out (by simp [gamplaw04_RibColors.l1])
            | succ k4 =>
             have H := HA.out
             clear HA
             simp only [gamplaw04_RibColors.l1] at H
             by_cases c70 : x13_4 < (t112.length : Int)
             ·rw [if_pos c70] at H
              have c70b0 : decide (x13_4 < (t112.length : Int)) = true := decide_eq_true c70
              clear c70
              by_cases c71 : x12_4 = true
              ·subst c71
               have H1 : (gamplaw04_RibColors.l1 k4 t107 t112 t123 x11_2 true (wrap64 (x13_4 + 1)) t102 t103) = some r := by rw [if_pos rfl] at H; exact H
               clear H
               have H := H1
               clear H1
               have H' := Aside0.mk H
               clear H
               obtain ⟨Ao72, co72, eo72⟩ := Kd.S_slice HO_7.out
               subst eo72
               go_wp2
               go_roundg k4
               case measure => have := HJ6.out; have := HK2.out; have := HJ60.out; have := HK4.out; omega
               case rel => exact ⟨(true), (wrap64 (x13_4 + 1)), (by first | rfl | (simp; done) | (simp [*]; done)), (by first | rfl | (simp; done) | (simp [*]; done)), H', ⟨by have := HJ6.out; have := HK2.out; have := HJ60.out; have := HK4.out; omega⟩, ⟨rl HO_4⟩, ⟨by (with_reducible repeat (first | apply Kd.S_alloc | apply Kd.S_drewN | apply Kd.S_drew)); exact HO_7.out⟩, ⟨rl HO_107001⟩, ⟨bk BK101⟩, ⟨bk BK106⟩, ⟨bl HB⟩⟩
              ·replace c71 := Bool.eq_false_iff.mpr c71
               subst c71
               have H1 : (if 0 ≤ x13_4 then ((Rg.gampref04_Has.f k4 (rd_L1 t112 x13_4) x11_2).bind fun t127 => (gamplaw04_RibColors.l1 k4 t107 t112 t123 x11_2 t127 (wrap64 (x13_4 + 1)) t102 t103)) else (none)) = some r := by rw [if_neg (show ¬ (false = true) by decide)] at H; exact H
               clear H
               have H := H1
               clear H1
               by_cases c73 : 0 ≤ x13_4
               ·rw [if_pos c73] at H
                have c73b0 : decide (0 ≤ x13_4) = true := decide_eq_true c73
                clear c73
                replace H := Option.bind_eq_some_iff.mp H
                obtain ⟨t127, A740, H⟩ := H
                replace H : (gamplaw04_RibColors.l1 k4 t107 t112 t123 x11_2 t127 (wrap64 (x13_4 + 1)) t102 t103) = some r := H
                have A74 := Aside0.mk A740
                clear A740
                have H' := Aside0.mk H
                clear H
                obtain ⟨Ao75, co75, eo75⟩ := Kd.S_slice HO_7.out
                subst eo75
                have p126 : 0 ≤ (x13_4 : Int) := ofd
                have q126 : x13_4 < (t112.length : Int) := ofd
                obtain ⟨ad126, A126_0, c126_0, e126, hx126_0, hl126_0, hi126_0⟩ := at_L1 (Kd.S_reads' HO_7.out).2.2 x13_4 p126 q126
                cases e126
                obtain ⟨ce126, hce126, hMe126, hcc126⟩ := Kd.S_get HO_7.out [] x13_4 p126 (by first | exact q126 | exact ofd | (have e_ := (Kd.S_reads' HO_7.out).1; omega))
                obtain ⟨ve126_0, rfl, ge126_0⟩ := hMe126
                have hv126_0 := hcc126 0 _ rfl
                rw [Nat.add_zero, show ((Kd.slice 3 (Kd.int .i64))).sz = 1 from rfl, Nat.mul_one] at hv126_0
                replace hv126_0 := Option.some.inj (hv126_0.symm.trans hx126_0)
                rw [hv126_0] at ge126_0
                have HL126_0 := Aside0.mk (show Kd.R (Kd.int .i64) 3 _ _ _ _ (rd_L1 t112 x13_4) from ge126_0)
                clear hv126_0 ge126_0
                clear hcc126 hce126
                have HR126_0 := Aside0.mk hi126_0
                have HC126_0 := Aside0.mk hl126_0
                clear hi126_0 hl126_0
                replace p126 := eq_true p126
                replace q126 := eq_true q126
                go_wp2_with (first | (go_at_call 38; (with_reducible refine (Rg.gampref04_Has.calls k4 _ _ (rd_L1 t112 x13_4) x11_2 t127 _ ?side1 ?side2 A74.out).mono ?_); (case side1 => exact cl (HR126_0.out)); (case side2 => exact HC126_0.out); rintro e w' ⟨rfl, ⟨nd, rfl⟩⟩))
                go_roundg k4
                case measure => have := HJ6.out; have := HK2.out; have := HJ60.out; have := HK4.out; omega
                case rel => exact ⟨(t127), (wrap64 (x13_4 + 1)), (by first | rfl | (simp; done) | (simp [*]; done)), (by first | rfl | (simp; done) | (simp [*]; done)), H', ⟨by have := HJ6.out; have := HK2.out; have := HJ60.out; have := HK4.out; omega⟩, ⟨rl HO_4⟩, ⟨by (with_reducible repeat (first | apply Kd.S_alloc | apply Kd.S_drewN | apply Kd.S_drew)); exact HO_7.out⟩, ⟨rl HO_107001⟩, ⟨bk BK101⟩, ⟨bk BK106⟩, ⟨bl HB⟩⟩
               ·rw [if_neg c73] at H
                exact absurd H (by simp)
             ·rw [if_neg c70] at H
              have c70b0 : decide (x13_4 < (t112.length : Int)) = false := decide_eq_false c70
              clear c70
              by_cases c76 : x12_4 = true
              ·subst c76
               have H1 : (gamplaw04_RibColors.l0 k4 t107 t112 t123 (wrap64 (x11_2 + 1)) t102 t103) = some r := by rw [if_pos rfl] at H; exact H
               clear H
               have H := H1
               clear H1
               have H' := Aside0.mk H
               clear H
               obtain ⟨Ao77, co77, eo77⟩ := Kd.S_slice HO_7.out
               subst eo77
               go_wp2
               go_roundg k4
               case measure => have := HJ6.out; have := HK2.out; have := HJ60.out; have := HK4.out; omega
               case rel => exact ⟨(wrap64 (x11_2 + 1)), (by first | rfl | (simp; done) | (simp [*]; done)), H', ⟨by have := HJ6.out; have := HK2.out; have := HJ60.out; have := HK4.out; omega⟩, ⟨rl HO_4⟩, ⟨by (with_reducible repeat (first | apply Kd.S_alloc | apply Kd.S_drewN | apply Kd.S_drew)); exact HO_7.out⟩, ⟨rl HO_107001⟩, ⟨bk BK101⟩, ⟨bk BK106⟩, ⟨bl HB⟩⟩
              ·replace c76 := Bool.eq_false_iff.mpr c76
               subst c76
               have H1 : (some false) = some r := by rw [if_neg (show ¬ (false = true) by decide)] at H; exact H
               clear H
               have H := H1
               clear H1
               rw [hrt] at H
               cases H
       ·rw [if_neg c60] at H
        have c60b0 : decide (x11_2 < t102) = false := decide_eq_false c60
        clear c60
        have H' := Aside0.mk H
        clear H
        have hnb79 := NB106_101.out
        have hnc79 := NB101_106.out
        have hcz80_0 : wr.cell? ⟨gb106, 0, none⟩ = some (.int .i64 t102) := (blk_cell BK106.out 0).trans rfl
        have hcz80_1 : wr.cell? ⟨gb106, 1, none⟩ = some (.slice Ao14 t103.length co14) := (blk_cell BK106.out 1).trans rfl
        have hfz80_0 := blk_frozen BK106.out 0
        have hfz80_1 := blk_frozen BK106.out 1
        go_wp2
        go_loopg [14] k2 (fun kq v14 w' => ∃ (x14_3 : Int), v14 = .int .i64 x14_3 ∧ Aside0 (gamplaw04_RibColors.l2 kq t107 t112 x14_3 t102 t103 = some r) ∧ Aside0 (kq ≤ k2) ∧ Aside0 (Kd.R (Kd.int .i64) 3 w' w.heap.size (fun _ => True) v109 t107) ∧ Aside0 (Kd.S (Kd.slice 3 (Kd.int .i64)) 34 w' w.heap.size (fun k_ => some k_ ≠ (v109 : Value).ownBlock) v116 t112) ∧ Aside0 (Kd.R k52 52 w' w.heap.size (fun _ => True) (.slice Ao14 t103.length co14) t103) ∧ Aside0 (w'.heap[gb101]? = some (.cells #[.int .i64 a0_0, (.slice A0_1 l0_1.length c0_1)] 24 (0, 0))) ∧ Aside0 (w'.heap[gb106]? = some (.cells #[.int .i64 t102, (.slice Ao14 t103.length co14)] 24 (0, 0))) ∧ Aside0 (Below w.heap.size w w'))
        case atStart => exact ⟨(0), (by first | rfl | (simp; done) | (simp [*]; done)), H', ⟨Nat.le_refl _⟩, ⟨rl HO_4⟩, ⟨by (with_reducible repeat (first | apply Kd.S_alloc | apply Kd.S_drewN | apply Kd.S_drew)); exact HO_7.out⟩, ⟨rl HO_107001⟩, ⟨bk BK101⟩, ⟨bk BK106⟩, ⟨bl HB⟩⟩
        case round =>
         clear H'
         try clear c1
         try clear p1
         try clear q1
         try clear hx1
         try clear c2
         try clear p2
         try clear c3
         try clear c4
         try clear c5
         try clear c6
         try clear c6b0
         try clear c6b1
         try clear p6
         try clear c7
         try clear c12
         try clear p12
         try clear q12
         try clear hx12
         try clear c15
         try clear c20
         try clear c20b0
         try clear c20b1
         try clear c21
         try clear c21b0
         try clear c21b1
         try clear c22
         try clear c22b0
         try clear c22b1
         try clear c23
         try clear c23b0
         try clear c23b1
         try clear c23b2
         try clear c25
         try clear c26
         try clear c27
         try clear c30
         try clear c33
         try clear c34
         try clear c37
         try clear c43
         try clear c48
         try clear c53
         try clear c55
         try clear c57
         try clear c60
         try clear c60b0
         try clear c62
         try clear c64
         try clear c64b0
         try clear p64
         try clear c65
         try clear c65b0
         try clear c66
         try clear c66b0
         try clear c69
         try clear c70
         try clear c70b0
         try clear c71
         try clear c73
         try clear c73b0
         try clear c76
         try clear c79
         try clear hcz13_0
         try clear hcz13_1
         try clear hcz16_0
         try clear hcz16_1
         try clear hcz18_0
         try clear hcz18_1
         try clear hcz31_0
         try clear hcz31_1
         try clear hcz38_0
         try clear hcz38_1
         try clear hcz44_0
         try clear hcz44_1
         try clear hcz49_0
         try clear hcz49_1
         try clear hcz54_0
         try clear hcz54_1
         try clear hcz58_0
         try clear hcz58_1
         try clear hcz63_0
         try clear hcz63_1
         try clear hcz80_0
         try clear hcz80_1
         try clear hcz9_0
         try clear hcz9_1
         try clear hfz13_0
         try clear hfz13_1
         try clear hfz16_0
         try clear hfz16_1
         try clear hfz18_0
         try clear hfz18_1
         try clear hfz31_0
         try clear hfz31_1
         try clear hfz38_0
         try clear hfz38_1
         try clear hfz44_0
         try clear hfz44_1
         try clear hfz49_0
         try clear hfz49_1
         try clear hfz54_0
         try clear hfz54_1
         try clear hfz58_0
         try clear hfz58_1
         try clear hfz63_0
         try clear hfz63_1
         try clear hfz80_0
         try clear hfz80_1
         try clear hfz9_0
         try clear hfz9_1
         try clear hx124_0
         try clear hx125_0
         try clear hx126_0
         try clear p1
         try clear p12
         try clear p124
         try clear p125
         try clear p126
         try clear p2
         try clear p6
         try clear p64
         try clear q1
         try clear q12
         try clear q124
         try clear q125
         try clear q126
         obtain ⟨x14_3, rfl, HA, HK3, HO_4, HO_7, HO_107001, BK101, BK106, HB⟩ := hrel
         cases gk with
         | zero => exact absurd HA.out (by simp [gamplaw04_RibColors.l2])
         | succ k3 =>
          have H := HA.out
          clear HA
          simp only [gamplaw04_RibColors.l2] at H
          by_cases c81 : x14_3 < (t103.length : Int)
          ·rw [if_pos c81] at H
           have c81b0 : decide (x14_3 < (t103.length : Int)) = true := decide_eq_true c81
           clear c81
           by_cases c82 : 0 ≤ x14_3
           ·rw [if_pos c82] at H
            have c82b0 : decide (0 ≤ x14_3) = true := decide_eq_true c82
            clear c82
            by_cases c83 : 0 ≤ ((rd_T52 t103 x14_3).f0)
            ·rw [if_pos c83] at H
             have c83b0 : decide (0 ≤ ((rd_T52 t103 x14_3).f0)) = true := decide_eq_true c83
             clear c83
             by_cases c84 : ((rd_T52 t103 x14_3).f0) < (t107.length : Int)
             ·rw [if_pos c84] at H
              have c84b0 : decide (((rd_T52 t103 x14_3).f0) < (t107.length : Int)) = true := decide_eq_true c84
              clear c84
              by_cases c85 : 0 ≤ ((rd_T52 t103 x14_3).f1)
              ·rw [if_pos c85] at H
               have c85b0 : decide (0 ≤ ((rd_T52 t103 x14_3).f1)) = true := decide_eq_true c85
               clear c85
               by_cases c86 : ((rd_T52 t103 x14_3).f1) < (t107.length : Int)
               ·rw [if_pos c86] at H
                have c86b0 : decide (((rd_T52 t103 x14_3).f1) < (t107.length : Int)) = true := decide_eq_true c86
                clear c86
                by_cases c87 : (rd t107 ((rd_T52 t103 x14_3).f0)) = (rd t107 ((rd_T52 t103 x14_3).f1))
                ·rw [if_pos c87] at H
                 have c87b0 : ((rd t107 ((rd_T52 t103 x14_3).f0)) == (rd t107 ((rd_T52 t103 x14_3).f1))) = true := beq_iff_eq.mpr c87
                 have c87b1 : ((rd t107 ((rd_T52 t103 x14_3).f0)) != (rd t107 ((rd_T52 t103 x14_3).f1))) = false := bne_eq_false_iff_eq.mpr c87
                 clear c87
                 rw [hrt] at H
                 cases H
                ·rw [if_neg c87] at H
                 have c87b0 : ((rd t107 ((rd_T52 t103 x14_3).f0)) == (rd t107 ((rd_T52 t103 x14_3).f1))) = false := beq_eq_false_iff_ne.mpr c87
                 have c87b1 : ((rd t107 ((rd_T52 t103 x14_3).f0)) != (rd t107 ((rd_T52 t103 x14_3).f1))) = true := bne_iff_ne.mpr c87
                 have H' := Aside0.mk H
                 clear H
                 have hnb92 := NB106_101.out
                 have hnc92 := NB101_106.out
                 have hcz93_0 : wr.cell? ⟨gb106, 0, none⟩ = some (.int .i64 t102) := (blk_cell BK106.out 0).trans rfl
                 have hcz93_1 : wr.cell? ⟨gb106, 1, none⟩ = some (.slice Ao14 t103.length co14) := (blk_cell BK106.out 1).trans rfl
                 have hfz93_0 := blk_frozen BK106.out 0
                 have hfz93_1 := blk_frozen BK106.out 1
                 try go_wp2
                 have n0_ := Aside0.mk (Kd.R_drew HO_4.out)
                 have n1_ := Aside0.mk (Kd.S_drew HO_7.out)
                 have n2_ := Aside0.mk (Kd.R_drew HO_107001.out)
                 have n3_ := Aside0.mk (blk_drew BK101.out)
                 have n4_ := Aside0.mk (blk_drew BK106.out)
                 have n5_ := Aside0.mk (below_drew1 HB.out)
                 clear HO_4
                 clear HO_7
                 clear HO_107001
                 clear BK101
                 clear BK106
                 clear HB
                 have HO_4 := n0_
                 have HO_7 := n1_
                 have HO_107001 := n2_
                 have BK101 := n3_
                 have BK106 := n4_
                 have HB := n5_
                 clear n0_ n1_ n2_ n3_ n4_ n5_
                 have p128 : 0 ≤ (x14_3 : Int) := ofd
                 have q128 : x14_3 < (t103.length : Int) := ofd
                 obtain ⟨ad128, e128, hx128_0, hx128_1⟩ := at_T52 (Kd.R_reads' HO_107001.out).2.2 x14_3 p128 q128
                 cases e128
                 replace p128 := eq_true p128
                 replace q128 := eq_true q128
                 obtain ⟨Ao95, co95, eo95⟩ := Kd.R_slice HO_4.out
                 (first | subst eo95 | (injection eo95 with f1_ f2_ f3_; have f4_ := f1_.symm; have f5_ := f3_.symm; clear f1_ f2_ f3_; subst f4_; subst f5_))
                 have p129 : 0 ≤ (((rd_T52 t103 x14_3).f0) : Int) := ofd
                 have q129 : ((rd_T52 t103 x14_3).f0) < (t107.length : Int) := ofd
                 obtain ⟨ad129, e129, hx129_0⟩ := Kd.at_int (Kd.R_reads' HO_4.out).2.2 ((rd_T52 t103 x14_3).f0) p129 q129
                 cases e129
                 replace p129 := eq_true p129
                 replace q129 := eq_true q129
                 have p130 : 0 ≤ (x14_3 : Int) := ofd
                 have q130 : x14_3 < (t103.length : Int) := ofd
                 obtain ⟨ad130, e130, hx130_0, hx130_1⟩ := at_T52 (Kd.R_reads' HO_107001.out).2.2 x14_3 p130 q130
                 obtain rfl : ad128 = ad130 := (by injection e130)
                 replace p130 := eq_true p130
                 replace q130 := eq_true q130
                 have p131 : 0 ≤ (((rd_T52 t103 x14_3).f1) : Int) := ofd
                 have q131 : ((rd_T52 t103 x14_3).f1) < (t107.length : Int) := ofd
                 obtain ⟨ad131, e131, hx131_0⟩ := Kd.at_int (Kd.R_reads' HO_4.out).2.2 ((rd_T52 t103 x14_3).f1) p131 q131
                 obtain rfl : ad129 = ad131 := (by injection e131)
                 replace p131 := eq_true p131
                 replace q131 := eq_true q131
                 refine start_ (n := 19) (S := fun w' => w'.cell? ⟨gb106, 0, none⟩ = some (.int .i64 t102) ∧ w'.cell? ⟨gb106, 1, none⟩ = some (.slice (some ad128) t103.length co14) ∧ w'.cell? (ad128.add ((x14_3).toNat * 2)) = some (.int .i64 ((rd_T52 t103 x14_3).f0)) ∧ w'.cell? ⟨(ad128.add ((x14_3).toNat * 2)).block, (ad128.add ((x14_3).toNat * 2)).off + 1, none⟩ = some (.int .i64 ((rd_T52 t103 x14_3).f1)) ∧ w'.cell? (ad129.add (((rd_T52 t103 x14_3).f0)).toNat) = some (.int .i64 (rd t107 ((rd_T52 t103 x14_3).f0))) ∧ w'.cell? (ad128.add ((x14_3).toNat * 2)) = some (.int .i64 ((rd_T52 t103 x14_3).f0)) ∧ w'.cell? ⟨(ad128.add ((x14_3).toNat * 2)).block, (ad128.add ((x14_3).toNat * 2)).off + 1, none⟩ = some (.int .i64 ((rd_T52 t103 x14_3).f1)) ∧ w'.cell? (ad129.add (((rd_T52 t103 x14_3).f1)).toNat) = some (.int .i64 (rd t107 ((rd_T52 t103 x14_3).f1)))) (ds := []) #[false, false, false, false, false, false, false, false, false, false, false, false, false, false, false, false, false, false, false] (by kernel_rfl) rfl rfl ⟨(blk_cell BK106.out 0).trans rfl, (blk_cell BK106.out 1).trans rfl, hx128_0, hx128_1, hx129_0, hx130_0, hx130_1, hx131_0⟩ (fun hHeld => ?_); refine with_tabW gamplaw04_RibColors.tab25 gamplaw04_RibColors.bits25 (fun HT_ HW_ => ?_)
                 generalize wr.drew = w94 at HO_4 HO_7 HO_107001 BK101 BK106 HB hx128_0 hx128_1 hx129_0 hx130_0 hx130_1 hx131_0 hHeld ⊢
                 refine pr 0 147 HT_ ?_
                 refine pr 1 148 HT_ ?_
                 refine pr 3 150 HT_ ?_
                 refine pr 9 156 HT_ ?_
                 refine pr 10 157 HT_ ?_
                 refine pr 12 159 HT_ ?_
                 refine tr 2 149 HT_ HW_ hHeld ?_
                 refine pr 4 151 HT_ ?_
                 refine pr 5 152 HT_ ?_
                 refine tr 6 153 HT_ HW_ hHeld ?_
                 refine pr 7 154 HT_ ?_
                 refine tr 8 155 HT_ HW_ hHeld ?_
                 refine tr 11 158 HT_ HW_ hHeld ?_
                 refine pr 13 160 HT_ ?_
                 refine pr 14 161 HT_ ?_
                 refine tr 15 162 HT_ HW_ hHeld ?_
                 refine pr 16 163 HT_ ?_
                 refine tr 17 164 HT_ HW_ hHeld ?_
                 refine pr 18 165 HT_ ?_
                 refine dn HT_ ?_
                 try go_wp2
                 go_roundg k3
                 case measure => have := HJ6.out; have := HK2.out; have := HK3.out; omega
                 case rel => exact ⟨(wrap64 (x14_3 + 1)), (by first | rfl | (simp; done) | (simp [*]; done)), H', ⟨by have := HJ6.out; have := HK2.out; have := HK3.out; omega⟩, ⟨rl HO_4⟩, ⟨by (with_reducible repeat (first | apply Kd.S_alloc | apply Kd.S_drewN | apply Kd.S_drew)); exact HO_7.out⟩, ⟨rl HO_107001⟩, ⟨bk BK101⟩, ⟨bk BK106⟩, ⟨bl HB⟩⟩
               ·rw [if_neg c86] at H
                exact absurd H (by simp)
              ·rw [if_neg c85] at H
               exact absurd H (by simp)
             ·rw [if_neg c84] at H
              exact absurd H (by simp)
            ·rw [if_neg c83] at H
             exact absurd H (by simp)
           ·rw [if_neg c82] at H
            exact absurd H (by simp)
          ·rw [if_neg c81] at H
           have c81b0 : decide (x14_3 < (t103.length : Int)) = false := decide_eq_false c81
           clear c81
           have H' := Aside0.mk H
           clear H
           have hnb96 := NB106_101.out
           have hnc96 := NB101_106.out
           have hcz97_0 : wr.cell? ⟨gb106, 0, none⟩ = some (.int .i64 t102) := (blk_cell BK106.out 0).trans rfl
           have hcz97_1 : wr.cell? ⟨gb106, 1, none⟩ = some (.slice Ao14 t103.length co14) := (blk_cell BK106.out 1).trans rfl
           have hfz97_0 := blk_frozen BK106.out 0
           have hfz97_1 := blk_frozen BK106.out 1
           go_wp2
           go_loopg [15] k3 (fun kq v15 w' => ∃ (x15_4 : Int), v15 = .int .i64 x15_4 ∧ Aside0 (gamplaw04_RibColors.l3 kq t112 x15_4 t102 t103 = some r) ∧ Aside0 (kq ≤ k3) ∧ Aside0 (Kd.S (Kd.slice 3 (Kd.int .i64)) 34 w' w.heap.size (fun _ => True) v116 t112) ∧ Aside0 (Kd.R k52 52 w' w.heap.size (fun _ => True) (.slice Ao14 t103.length co14) t103) ∧ Aside0 (w'.heap[gb101]? = some (.cells #[.int .i64 a0_0, (.slice A0_1 l0_1.length c0_1)] 24 (0, 0))) ∧ Aside0 (w'.heap[gb106]? = some (.cells #[.int .i64 t102, (.slice Ao14 t103.length co14)] 24 (0, 0))) ∧ Aside0 (Below w.heap.size w w'))
           case atStart => exact ⟨(0), (by first | rfl | (simp; done) | (simp [*]; done)), H', ⟨Nat.le_refl _⟩, ⟨by (with_reducible repeat (first | apply Kd.S_alloc | apply Kd.S_drewN | apply Kd.S_drew)); exact Kd.S_mono HO_7.out (fun _ hk => trivial)⟩, ⟨rl HO_107001⟩, ⟨bk BK101⟩, ⟨bk BK106⟩, ⟨bl HB⟩⟩
           case round =>
            clear H'
            try clear c1
            try clear p1
            try clear q1
            try clear hx1
            try clear c2
            try clear p2
            try clear c3
            try clear c4
            try clear c5
            try clear c6
            try clear p6
            try clear c7
            try clear c8
            try clear c9
            try clear p12
            try clear q12
            try clear hx12
            try clear p13
            try clear q13
            try clear hx13
            try clear c15
            try clear c20
            try clear c20b0
            try clear c20b1
            try clear c21
            try clear c21b0
            try clear c21b1
            try clear c22
            try clear c22b0
            try clear c22b1
            try clear c23
            try clear c23b0
            try clear c23b1
            try clear c23b2
            try clear c25
            try clear c26
            try clear c27
            try clear c30
            try clear c33
            try clear c34
            try clear c37
            try clear c43
            try clear c48
            try clear c53
            try clear c55
            try clear c57
            try clear c60
            try clear c60b0
            try clear c62
            try clear c64
            try clear c64b0
            try clear p64
            try clear c65
            try clear c65b0
            try clear c66
            try clear c66b0
            try clear c69
            try clear c70
            try clear c70b0
            try clear c71
            try clear c73
            try clear c73b0
            try clear c76
            try clear c79
            try clear c81
            try clear c81b0
            try clear c82
            try clear c82b0
            try clear c83
            try clear c83b0
            try clear c84
            try clear c84b0
            try clear c85
            try clear c85b0
            try clear c86
            try clear c86b0
            try clear c87
            try clear c87b0
            try clear c87b1
            try clear c88
            try clear c92
            try clear c96
            try clear hcz13_0
            try clear hcz13_1
            try clear hcz16_0
            try clear hcz16_1
            try clear hcz18_0
            try clear hcz18_1
            try clear hcz31_0
            try clear hcz31_1
            try clear hcz38_0
            try clear hcz38_1
            try clear hcz44_0
            try clear hcz44_1
            try clear hcz49_0
            try clear hcz49_1
            try clear hcz54_0
            try clear hcz54_1
            try clear hcz58_0
            try clear hcz58_1
            try clear hcz63_0
            try clear hcz63_1
            try clear hcz80_0
            try clear hcz80_1
            try clear hcz89_0
            try clear hcz89_1
            try clear hcz93_0
            try clear hcz93_1
            try clear hcz97_0
            try clear hcz97_1
            try clear hcz9_0
            try clear hcz9_1
            try clear hfz13_0
            try clear hfz13_1
            try clear hfz16_0
            try clear hfz16_1
            try clear hfz18_0
            try clear hfz18_1
            try clear hfz31_0
            try clear hfz31_1
            try clear hfz38_0
            try clear hfz38_1
            try clear hfz44_0
            try clear hfz44_1
            try clear hfz49_0
            try clear hfz49_1
            try clear hfz54_0
            try clear hfz54_1
            try clear hfz58_0
            try clear hfz58_1
            try clear hfz63_0
            try clear hfz63_1
            try clear hfz80_0
            try clear hfz80_1
            try clear hfz89_0
            try clear hfz89_1
            try clear hfz93_0
            try clear hfz93_1
            try clear hfz97_0
            try clear hfz97_1
            try clear hfz9_0
            try clear hfz9_1
            try clear hx124_0
            try clear hx125_0
            try clear hx126_0
            try clear hx128_0
            try clear hx128_1
            try clear hx129_0
            try clear hx130_0
            try clear hx130_1
            try clear hx131_0
            try clear p1
            try clear p12
            try clear p124
            try clear p125
            try clear p126
            try clear p128
            try clear p129
            try clear p130
            try clear p131
            try clear p2
            try clear p6
            try clear p64
            try clear q1
            try clear q12
            try clear q124
            try clear q125
            try clear q126
            try clear q128
            try clear q129
            try clear q130
            try clear q131
            obtain ⟨x15_4, rfl, HA, HK4, HO_7, HO_107001, BK101, BK106, HB⟩ := hrel
            cases gk with
            | zero => exact absurd HA.out (by simp [gamplaw04_RibColors.l3])
            | succ k4 =>
             have H := HA.out
             clear HA
             simp only [gamplaw04_RibColors.l3] at H
             by_cases c98 : x15_4 < (t112.length : Int)
             ·rw [if_pos c98] at H
              have c98b0 : decide (x15_4 < (t112.length : Int)) = true := decide_eq_true c98
              clear c98
              by_cases c99 : 0 ≤ x15_4
              ·rw [if_pos c99] at H
               have c99b0 : decide (0 ≤ x15_4) = true := decide_eq_true c99
               clear c99
               replace H := Option.bind_eq_some_iff.mp H
               obtain ⟨t133, A1000, H⟩ := H
               replace H : (if t133 = true then ((Rx.gampref04_Clique.f k4 t103 (rd_L1 t112 x15_4)).bind fun t135 => (if t135 = true then (gamplaw04_RibColors.l3 k4 t112 (wrap64 (x15_4 + 1)) t102 t103) else (some false))) else (some false)) = some r := H
               have A100 := Aside0.mk A1000
               clear A1000
               by_cases c101 : t133 = true
               ·subst c101
                have H1 : ((Rx.gampref04_Clique.f k4 t103 (rd_L1 t112 x15_4)).bind fun t135 => (if t135 = true then (gamplaw04_RibColors.l3 k4 t112 (wrap64 (x15_4 + 1)) t102 t103) else (some false))) = some r := by rw [if_pos rfl] at H; exact H
                clear H
                have H := H1
                clear H1
                replace H := Option.bind_eq_some_iff.mp H
                obtain ⟨t135, A1020, H⟩ := H
                replace H : (if t135 = true then (gamplaw04_RibColors.l3 k4 t112 (wrap64 (x15_4 + 1)) t102 t103) else (some false)) = some r := H
                have A102 := Aside0.mk A1020
                clear A1020
                by_cases c103 : t135 = true
                ·subst c103
                 have H1 : (gamplaw04_RibColors.l3 k4 t112 (wrap64 (x15_4 + 1)) t102 t103) = some r := by rw [if_pos rfl] at H; exact H
                 clear H
                 have H := H1
                 clear H1
                 have H' := Aside0.mk H
                 clear H
                 obtain ⟨Ao104, co104, eo104⟩ := Kd.S_slice HO_7.out
                 subst eo104
                 try go_wp2
                 have n0_ := Aside0.mk (Kd.S_drew HO_7.out)
                 have n1_ := Aside0.mk (Kd.R_drew HO_107001.out)
                 have n2_ := Aside0.mk (blk_drew BK101.out)
                 have n3_ := Aside0.mk (blk_drew BK106.out)
                 have n4_ := Aside0.mk (below_drew1 HB.out)
                 clear HO_7
                 clear HO_107001
                 clear BK101
                 clear BK106
                 clear HB
                 have HO_7 := n0_
                 have HO_107001 := n1_
                 have BK101 := n2_
                 have BK106 := n3_
                 have HB := n4_
                 clear n0_ n1_ n2_ n3_ n4_
                 have p132 : 0 ≤ (x15_4 : Int) := ofd
                 have q132 : x15_4 < (t112.length : Int) := ofd
                 obtain ⟨ad132, A132_0, c132_0, e132, hx132_0, hl132_0, hi132_0⟩ := at_L1 (Kd.S_reads' HO_7.out).2.2 x15_4 p132 q132
                 cases e132
                 obtain ⟨ce132, hce132, hMe132, hcc132⟩ := Kd.S_get HO_7.out [] x15_4 p132 (by first | exact q132 | exact ofd | (have e_ := (Kd.S_reads' HO_7.out).1; omega))
                 obtain ⟨ve132_0, rfl, ge132_0⟩ := hMe132
                 have hv132_0 := hcc132 0 _ rfl
                 rw [Nat.add_zero, show ((Kd.slice 3 (Kd.int .i64))).sz = 1 from rfl, Nat.mul_one] at hv132_0
                 replace hv132_0 := Option.some.inj (hv132_0.symm.trans hx132_0)
                 rw [hv132_0] at ge132_0
                 have HL132_0 := Aside0.mk (show Kd.R (Kd.int .i64) 3 _ _ _ _ (rd_L1 t112 x15_4) from ge132_0)
                 clear hv132_0 ge132_0
                 clear hcc132 hce132
                 have HR132_0 := Aside0.mk hi132_0
                 have HC132_0 := Aside0.mk hl132_0
                 clear hi132_0 hl132_0
                 replace p132 := eq_true p132
                 replace q132 := eq_true q132
                 have p134 : 0 ≤ (x15_4 : Int) := ofd
                 have q134 : x15_4 < (t112.length : Int) := ofd
                 obtain ⟨ad134, A134_0, c134_0, e134, hx134_0, hl134_0, hi134_0⟩ := at_L1 (Kd.S_reads' HO_7.out).2.2 x15_4 p134 q134
                 obtain rfl : ad132 = ad134 := (by injection e134)
                 obtain ⟨ce134, hce134, hMe134, hcc134⟩ := Kd.S_get HO_7.out [] x15_4 p134 (by first | exact q134 | exact ofd | (have e_ := (Kd.S_reads' HO_7.out).1; omega))
                 obtain ⟨ve134_0, rfl, ge134_0⟩ := hMe134
                 have hv134_0 := hcc134 0 _ rfl
                 rw [Nat.add_zero, show ((Kd.slice 3 (Kd.int .i64))).sz = 1 from rfl, Nat.mul_one] at hv134_0
                 replace hv134_0 := Option.some.inj (hv134_0.symm.trans hx134_0)
                 rw [hv134_0] at ge134_0
                 have HL134_0 := Aside0.mk (show Kd.R (Kd.int .i64) 3 _ _ _ _ (rd_L1 t112 x15_4) from ge134_0)
                 clear hv134_0 ge134_0
                 clear hcc134 hce134
                 have HR134_0 := Aside0.mk hi134_0
                 have HC134_0 := Aside0.mk hl134_0
                 clear hi134_0 hl134_0
                 replace p134 := eq_true p134
                 replace q134 := eq_true q134
                 have ea_ := Option.some.inj (hx132_0.symm.trans hx134_0)
                 injection ea_ with ea_ en_ ec_
                 subst ea_
                 subst ec_
                 clear en_
                 refine start_ (n := 18) (S := fun w' => w'.cell? ⟨gb106, 0, none⟩ = some (.int .i64 t102) ∧ w'.cell? ⟨gb106, 1, none⟩ = some (.slice Ao14 t103.length co14) ∧ w'.cell? (ad132.add (x15_4).toNat) = some (.slice A132_0 (rd_L1 t112 x15_4).length c132_0) ∧ w'.cell? (ad132.add (x15_4).toNat) = some (.slice A132_0 (rd_L1 t112 x15_4).length c132_0)) (ds := []) #[false, false, false, false, false, false, false, false, false, false, false, false, false, false, false, false, false, false] (by kernel_rfl) rfl rfl ⟨(blk_cell BK106.out 0).trans rfl, (blk_cell BK106.out 1).trans rfl, hx132_0, hx134_0⟩ (fun hHeld => ?_); refine with_tabW gamplaw04_RibColors.tab30 gamplaw04_RibColors.bits30 (fun HT_ HW_ => ?_)
                 generalize wr.drew = w105 at HO_7 HO_107001 BK101 BK106 HB HL132_0 HL134_0 HR132_0 HR134_0 hx132_0 hx134_0 hHeld ⊢
                 refine pr 0 172 HT_ ?_
                 refine pr 1 173 HT_ ?_
                 refine pr 2 174 HT_ ?_
                 refine pr 4 176 HT_ ?_
                 refine tr 3 175 HT_ HW_ hHeld ?_
                 refine tr 5 177 HT_ HW_ hHeld ?_
                 refine on 6 (some 178) HT_ (fun K hK => ?_)
                 refine gS Try.func35 #[.slice A132_0 (rd_L1 t112 x15_4).length c132_0, .int .i64 t102] ?_
                 with_reducible refine (Rg.gamplaw04_rising.calls k4 _ _ (rd_L1 t112 x15_4) t102 true _ ?side1 ?side2 A100.out).mono ?_
                 (case side1 => exact cl (HR132_0.out))
                 (case side2 => exact HC132_0.out)
                 rintro e w' ⟨rfl, ⟨nd, rfl⟩⟩
                 refine ⟨_, rfl, ?_⟩
                 refine hK.out _ _ ⟨(blk_cell BK106.out 0).trans rfl, (blk_cell BK106.out 1).trans rfl, hHeld.2.2.1, hHeld.2.2.2⟩ (fun hHeld => ?_)
                 clear hK K
                 refine nr (some 178) ?_
                 refine pr 7 179 HT_ ?_
                 refine pr 8 180 HT_ ?_
                 refine pr 9 181 HT_ ?_
                 refine pr 11 183 HT_ ?_
                 refine pr 12 184 HT_ ?_
                 refine pr 13 185 HT_ ?_
                 refine tr 10 182 HT_ HW_ hHeld ?_
                 refine tr 14 186 HT_ HW_ hHeld ?_
                 refine on 15 (some 187) HT_ (fun K hK => ?_)
                 refine gS Try.func39 #[.slice Ao14 t103.length co14, .slice A132_0 (rd_L1 t112 x15_4).length c132_0] ?_
                 with_reducible refine (Rx.gampref04_Clique.calls k4 _ _ t103 _ _ (rd_L1 t112 x15_4) true _ ?side1 ?side2 ?side3 ?side4 A102.out).mono ?_
                 (case side1 => exact cl ((Kd.R_reads' HO_107001.out).2.2))
                 (case side2 => exact (Kd.R_reads' HO_107001.out).2.1)
                 (case side3 => exact cl (HR134_0.out))
                 (case side4 => exact HC134_0.out)
                 rintro e w106 ⟨rfl, hb⟩
                 have HS2_ := (hb.cell (World.block_lt_of_cell? _ _ (hHeld.2.2.1))).trans (hHeld.2.2.1)
                 have HS3_ := (hb.cell (World.block_lt_of_cell? _ _ (hHeld.2.2.2))).trans (hHeld.2.2.2)
                 refine ⟨_, rfl, ?_⟩
                 have n0_ := Aside0.mk (Kd.S_below (by (with_reducible repeat (first | apply Kd.S_alloc | apply Kd.S_drewN | apply Kd.S_drew)); exact HO_7.out) hb)
                 have n1_ := Aside0.mk (Kd.R_below (rl HO_107001) hb)
                 have n2_ := Aside0.mk (Kd.R_below (rl HL132_0) hb)
                 have n3_ := Aside0.mk (Kd.R_below (rl HL134_0) hb)
                 have n4_ := Aside0.mk (blk_below (g := gb101) (o := .cells #[.int .i64 a0_0, .slice A0_1 l0_1.length c0_1] 24 (0, 0)) (bk BK101) hb)
                 have n5_ := Aside0.mk (blk_below (g := gb106) (o := .cells #[.int .i64 t102, .slice Ao14 t103.length co14] 24 (0, 0)) (bk BK106) hb)
                 have n6_ := Aside0.mk (Kd.C_below (cl HR132_0.out) hb)
                 have n7_ := Aside0.mk (Kd.C_below (cl HR134_0.out) hb)
                 have n8_ := Aside0.mk (below_step (bl HB) hb)
                 clear HO_7
                 clear HO_107001
                 clear HL132_0
                 clear HL134_0
                 clear BK101
                 clear BK106
                 clear HR132_0
                 clear HR134_0
                 clear HB
                 have HO_7 := n0_
                 have HO_107001 := n1_
                 have HL132_0 := n2_
                 have HL134_0 := n3_
                 have BK101 := n4_
                 have BK106 := n5_
                 have HR132_0 := n6_
                 have HR134_0 := n7_
                 have HB := n8_
                 clear n0_ n1_ n2_ n3_ n4_ n5_ n6_ n7_ n8_
                 (try clear hb)
                 (try clear hb2)
                 (try clear hk)
                 (try clear hi)
                 refine hK.out _ _ ⟨(blk_cell BK106.out 0).trans rfl, (blk_cell BK106.out 1).trans rfl, HS2_, HS3_⟩ (fun hHeld => ?_)
                 clear hK K
                 refine nr (some 187) ?_
                 refine pr 16 188 HT_ ?_
                 refine pr 17 189 HT_ ?_
                 refine dn HT_ ?_
                 try go_wp2
                 go_roundg k4
                 case measure => have := HJ6.out; have := HK2.out; have := HK3.out; have := HK4.out; omega
                 case rel => exact ⟨(wrap64 (x15_4 + 1)), (by first | rfl | (simp; done) | (simp [*]; done)), H', ⟨by have := HJ6.out; have := HK2.out; have := HK3.out; have := HK4.out; omega⟩, ⟨by (with_reducible repeat (first | apply Kd.S_alloc | apply Kd.S_drewN | apply Kd.S_drew)); exact HO_7.out⟩, ⟨rl HO_107001⟩, ⟨bk BK101⟩, ⟨bk BK106⟩, ⟨bl HB⟩⟩
                ·replace c103 := Bool.eq_false_iff.mpr c103
                 subst c103
                 have H1 : (some false) = some r := by rw [if_neg (show ¬ (false = true) by decide)] at H; exact H
                 clear H
                 have H := H1
                 clear H1
                 rw [hrt] at H
                 cases H
               ·replace c101 := Bool.eq_false_iff.mpr c101
                subst c101
                have H1 : (some false) = some r := by rw [if_neg (show ¬ (false = true) by decide)] at H; exact H
                clear H
                have H := H1
                clear H1
                rw [hrt] at H
                cases H
              ·rw [if_neg c99] at H
               exact absurd H (by simp)
             ·rw [if_neg c98] at H
              have c98b0 : decide (x15_4 < (t112.length : Int)) = false := decide_eq_false c98
              clear c98
              obtain rfl := Option.some.inj H
              obtain ⟨Ao112, co112, eo112⟩ := Kd.S_slice HO_7.out
              subst eo112
              go_wp2
              go_ret
              exact ⟨by first | rfl | (simp [errW_none, errW_some] <;> rfl) | (simp [*, errW_none, errW_some] <;> rfl), by repeat (first | (with_reducible first | exact HB.out | apply below_alloc | apply pw_below_drewN | apply below_drew1 | refine below_set ?_ GE101.out | refine below_set ?_ GE106.out) | exact HB.out)⟩
 ·rw [if_neg c6] at H
  have c6b0 : (t118 == 0) = false := beq_eq_false_iff_ne.mpr c6
  have c6b1 : (t118 != 0) = true := bne_iff_ne.mpr c6
  by_cases c113 : (wrap64 ((wrap64 ((t107.length : Int) + (t111.length : Int))) + (t112.length : Int))) = 0
  ·rw [if_pos c113] at H
   have c113b0 : ((wrap64 ((wrap64 ((t107.length : Int) + (t111.length : Int))) + (t112.length : Int))) == 0) = true := beq_iff_eq.mpr c113
   have c113b1 : ((wrap64 ((wrap64 ((t107.length : Int) + (t111.length : Int))) + (t112.length : Int))) != 0) = false := bne_eq_false_iff_eq.mpr c113
   clear c113
   by_cases c114 : t108 = t118
   ·rw [if_pos c114] at H
    have c114b0 : (t108 == t118) = true := beq_iff_eq.mpr c114
    have c114b1 : (t108 != t118) = false := bne_eq_false_iff_eq.mpr c114
    clear c114
    by_cases c115 : t113 = t118
    ·rw [if_pos c115] at H
     have c115b0 : (t113 == t118) = true := beq_iff_eq.mpr c115
     have c115b1 : (t113 != t118) = false := bne_eq_false_iff_eq.mpr c115
     clear c115
     replace H := Option.bind_eq_some_iff.mp H
     obtain ⟨t119, A1160, H⟩ := H
     replace H : (some t119) = some r := H
     have A116 := Aside0.mk A1160
     clear A1160
     obtain rfl := Option.some.inj H
     go_enter Try.func7, Try.ntmps7
     go_wp2_with (first | ((with_reducible refine gate_dst (N := 1) rfl ?_); (try (refine gate_guard (by rfl) ?_; dsimp only)); refine box_event ?hg (N := 1) ?hd (cs := #[.int .i64 a0_0, .slice A0_1 l0_1.length c0_1]) (t := 24) ?hr ?_; (case hd => rfl); (case hg => rfl); (case hr => first | (go_simp; done) | (go_simp; rfl)); intro gb101 hg w117 hbox hb; have n0_ := Aside0.mk (below_step (bl HB) hb); have n1_ := Aside0.mk (hbox); have n2_ := Aside0.mk ((by rw [hg]; exact (below_size (bl HB)) : w.heap.size ≤ gb101)); have n3_ := Aside0.mk ((by rw [hg]; exact (below_size (bl HB)) : w.heap.size ≤ gb101)); clear HB; have HB := n0_; have BK101 := n1_; have GW101 := n2_; have GE101 := n3_; clear n0_ n1_ n2_ n3_; clear hb hbox hg; have hcz118_0 : w117.cell? ⟨gb101, 0, none⟩ = some (.int .i64 a0_0) := (blk_cell BK101.out 0).trans rfl; have hcz118_1 : w117.cell? ⟨gb101, 1, none⟩ = some (.slice A0_1 l0_1.length c0_1) := (blk_cell BK101.out 1).trans rfl; have hfz118_0 := blk_frozen BK101.out 0; have hfz118_1 := blk_frozen BK101.out 1) | ((with_reducible refine gate_callee (f := 15) rfl ?_); refine gL 17 Try.func15 #[.agg #[.int .i64 a0_0, .slice A0_1 l0_1.length c0_1]] ?_; (with_reducible refine (Rx.gamplaw04_few.calls a0_0 _ _ l0_1 t102 t103 _ ?side1 ?side2 A2.out).mono ?_); (case side1 => exact cl (Kd.C_below HR0_1.out HB.out)); (case side2 => exact HC0_1.out); rintro e w119 ⟨v104, rfl, ho0, hb⟩; refine ⟨_, rfl, ?_⟩; have n0_ := Aside0.mk (Kd.R_lower ho0 (below_size (bl HB))); have n1_ := Aside0.mk (blk_below (g := gb101) (o := .cells #[.int .i64 a0_0, .slice A0_1 l0_1.length c0_1] 24 (0, 0)) (bk BK101) hb); have n2_ := Aside0.mk (below_step (bl HB) hb); clear BK101; clear HB; have HO105 := n0_; have BK101 := n1_; have HB := n2_; clear n0_ n1_ n2_; (try clear hb); (try clear hb2); (try clear hk); (try clear hi); (try clear ho0)) | ((with_reducible refine gate_dst (N := 3) rfl ?_); (try (refine gate_guard (by rfl) ?_; dsimp only)); refine box_event ?hg (N := 3) ?hd (cs := #[.int .i64 0, .slice none 0 0]) (t := 24) ?hr ?_; (case hd => rfl); (case hg => rfl); (case hr => first | (go_simp; done) | (go_simp; rfl)); intro gb106 hg w120 hbox hb; have n0_ := Aside0.mk (Kd.R_below (rl HO105) hb); have n1_ := Aside0.mk (blk_below (g := gb101) (o := .cells #[.int .i64 a0_0, .slice A0_1 l0_1.length c0_1] 24 (0, 0)) (bk BK101) hb); have n2_ := Aside0.mk (below_step (bl HB) hb); have n3_ := Aside0.mk (hbox); have n4_ := Aside0.mk ((by rw [hg]; exact (below_size (bl HB)) : w.heap.size ≤ gb106)); have n5_ := Aside0.mk ((by rw [hg]; exact (below_size (bl HB)) : w.heap.size ≤ gb106)); have n6_ := Aside0.mk ((by rw [hg]; exact Nat.ne_of_lt (blk_lt (g := gb101) (o := .cells #[.int .i64 a0_0, .slice A0_1 l0_1.length c0_1] 24 (0, 0)) (bk BK101)) : gb101 ≠ gb106)); have n7_ := Aside0.mk ((by rw [hg]; exact Nat.ne_of_gt (blk_lt (g := gb101) (o := .cells #[.int .i64 a0_0, .slice A0_1 l0_1.length c0_1] 24 (0, 0)) (bk BK101)) : gb106 ≠ gb101)); clear HO105; clear BK101; clear HB; have HO105 := n0_; have BK101 := n1_; have HB := n2_; have BK106 := n3_; have GW106 := n4_; have GE106 := n5_; have NB101_106 := n6_; have NB106_101 := n7_; clear n0_ n1_ n2_ n3_ n4_ n5_ n6_ n7_; clear hb hbox hg; have hnb121 := NB106_101.out; have hnc121 := NB101_106.out; have hcz122_0 : w120.cell? ⟨gb106, 0, none⟩ = some (.int .i64 0) := (blk_cell BK106.out 0).trans rfl; have hcz122_1 : w120.cell? ⟨gb106, 1, none⟩ = some (.slice none 0 0) := (blk_cell BK106.out 1).trans rfl; have hfz122_0 := blk_frozen BK106.out 0; have hfz122_1 := blk_frozen BK106.out 1; obtain ⟨Ao123, co123, eo123⟩ := Kd.R_slice HO105.out; subst eo123) | ((with_reducible refine gate_callee (f := 33) rfl ?_); refine gL 23 Try.func33 #[.int .i64 t102, .slice Ao123 t103.length co123] ?_; (with_reducible refine (Bk.rib_Colors.calls k t102 _ _ t103 t107 t108 _ ?side1 ?side2 A3.out).mono ?_); (case side1 => refine (Kd.R_reads' (e := 52) (base := w.heap.size) (ok := fun k_ => True) (n := t103.length) (c := co123) ?_).2.2; exact (by (with_reducible repeat (first | apply Kd.R_alloc | apply Kd.R_drewN | apply Kd.R_drew)); exact (Kd.R_mono (Kd.R_far (p := ⟨gb106, 1, none⟩) (Kd.R_far (p := ⟨gb106, 0, none⟩) (Kd.R_types HO105.out BK106.out (by decide)) (fun _ hk => hk.2) (.int .i64 t102)) (fun _ hk => hk.2) (.slice Ao123 t103.length co123)) (fun _ h_ => h_.1)))); (case side2 => exact (Kd.R_reads' HO105.out).2.1); rintro e w124 ⟨v109, rfl, ho0, hb⟩; refine ⟨_, rfl, ?_⟩; have n0_ := Aside0.mk (Kd.R_below (by (with_reducible repeat (first | apply Kd.R_alloc | apply Kd.R_drewN | apply Kd.R_drew)); exact (Kd.R_mono (Kd.R_far (p := ⟨gb106, 1, none⟩) (Kd.R_far (p := ⟨gb106, 0, none⟩) (Kd.R_types HO105.out BK106.out (by decide)) (fun _ hk => hk.2) (.int .i64 t102)) (fun _ hk => hk.2) (.slice Ao123 t103.length co123)) (fun _ h_ => h_.1))) hb); have n1_ := Aside0.mk (Kd.R_lower ho0 (below_size (bl HB))); have n2_ := Aside0.mk (blk_below (g := gb101) (o := .cells #[.int .i64 a0_0, .slice A0_1 l0_1.length c0_1] 24 (0, 0)) (by (with_reducible repeat (first | refine blk_drewN ?_ _ | refine blk_drew ?_ | refine blk_alloc ?_ _)); refine blk_far ?_ NB101_106.out _; (with_reducible repeat (first | refine blk_drewN ?_ _ | refine blk_drew ?_ | refine blk_alloc ?_ _)); refine blk_far ?_ NB101_106.out _; (with_reducible repeat (first | refine blk_drewN ?_ _ | refine blk_drew ?_ | refine blk_alloc ?_ _)); exact BK101.out) hb); have n3_ := Aside0.mk (blk_below (g := gb106) (o := .cells #[.int .i64 t102, .slice Ao123 t103.length co123] 24 (0, 0)) (by (with_reducible repeat (first | refine blk_drewN ?_ _ | refine blk_drew ?_ | refine blk_alloc ?_ _)); refine blk_put (cs := #[.int .i64 t102, .slice none 0 0]) ?_ 1 _ rfl; (with_reducible repeat (first | refine blk_drewN ?_ _ | refine blk_drew ?_ | refine blk_alloc ?_ _)); refine blk_put (cs := #[.int .i64 0, .slice none 0 0]) ?_ 0 _ rfl; (with_reducible repeat (first | refine blk_drewN ?_ _ | refine blk_drew ?_ | refine blk_alloc ?_ _)); exact BK106.out) hb); have n4_ := Aside0.mk (below_step (bl HB) hb); clear HO105; clear BK101; clear BK106; clear HB; have HO105 := n0_; have HO110 := n1_; have BK101 := n2_; have BK106 := n3_; have HB := n4_; clear n0_ n1_ n2_ n3_ n4_; (try clear hb); (try clear hb2); (try clear hk); (try clear hi); (try clear ho0); have hcz125_0 : w124.cell? ⟨gb106, 0, none⟩ = some (.int .i64 t102) := (blk_cell BK106.out 0).trans rfl; have hcz125_1 : w124.cell? ⟨gb106, 1, none⟩ = some (.slice Ao123 t103.length co123) := (blk_cell BK106.out 1).trans rfl; have hfz125_0 := blk_frozen BK106.out 0; have hfz125_1 := blk_frozen BK106.out 1) | ((with_reducible refine gate_callee (f := 34) rfl ?_); refine gL 31 Try.func34 #[.int .i64 t102, .slice Ao123 t103.length co123] ?_; (with_reducible refine (Rg.rib_Apart.calls k t102 _ _ t103 t111 t112 t113 _ ?side1 ?side2 A4.out).mono ?_); (case side1 => exact cl ((Kd.R_reads' HO105.out).2.2)); (case side2 => exact (Kd.R_reads' HO105.out).2.1); rintro e w126 ⟨v114, v116, rfl, ho0, ho1, hb⟩; refine ⟨_, rfl, ?_⟩; have n0_ := Aside0.mk (Kd.R_below (rl HO105) hb); have n1_ := Aside0.mk (Kd.R_elder' (rl HO110) (Kd.R_base ho0) hb); have n2_ := Aside0.mk (Kd.R_lower (Kd.R_new' ho0 (Kd.R_lt (rl HO110))) (below_size (bl HB))); have n3_ := Aside0.mk (Kd.S_lower (Kd.S_new' ho1 (Kd.R_lt (rl HO110))) (below_size (bl HB))); have n4_ := Aside0.mk (blk_below (g := gb101) (o := .cells #[.int .i64 a0_0, .slice A0_1 l0_1.length c0_1] 24 (0, 0)) (bk BK101) hb); have n5_ := Aside0.mk (blk_below (g := gb106) (o := .cells #[.int .i64 t102, .slice Ao123 t103.length co123] 24 (0, 0)) (bk BK106) hb); have n6_ := Aside0.mk (below_step (bl HB) hb); clear HO105; clear HO110; clear BK101; clear BK106; clear HB; have HO105 := n0_; have HO110 := n1_; have HO115 := n2_; have HO117 := n3_; have BK101 := n4_; have BK106 := n5_; have HB := n6_; clear n0_ n1_ n2_ n3_ n4_ n5_ n6_; (try clear hb); (try clear hb2); (try clear hk); (try clear hi); (try clear ho0); (try clear ho1); have hcz127_0 : w126.cell? ⟨gb106, 0, none⟩ = some (.int .i64 t102) := (blk_cell BK106.out 0).trans rfl; have hcz127_1 : w126.cell? ⟨gb106, 1, none⟩ = some (.slice Ao123 t103.length co123) := (blk_cell BK106.out 1).trans rfl; have hfz127_0 := blk_frozen BK106.out 0; have hfz127_1 := blk_frozen BK106.out 1) | ((with_reducible refine gate_callee (f := 26) rfl ?_); refine gL 36 Try.func26 #[.agg #[.int .i64 t102, .slice Ao123 t103.length co123]] ?_; (with_reducible refine (Rw.gamplaw04_chordal.calls k t102 _ _ t103 t118 _ ?side1 ?side2 A5.out).mono ?_); (case side1 => exact cl ((Kd.R_reads' HO105.out).2.2)); (case side2 => exact (Kd.R_reads' HO105.out).2.1); rintro e w128 ⟨rfl, hb⟩; refine ⟨_, rfl, ?_⟩; have n0_ := Aside0.mk (Kd.R_below (rl HO105) hb); have n1_ := Aside0.mk (Kd.R_below (rl HO110) hb); have n2_ := Aside0.mk (Kd.R_below (rl HO115) hb); have n3_ := Aside0.mk (Kd.S_below (by (with_reducible repeat (first | apply Kd.S_alloc | apply Kd.S_drewN | apply Kd.S_drew)); exact HO117.out) hb); have n4_ := Aside0.mk (blk_below (g := gb101) (o := .cells #[.int .i64 a0_0, .slice A0_1 l0_1.length c0_1] 24 (0, 0)) (bk BK101) hb); have n5_ := Aside0.mk (blk_below (g := gb106) (o := .cells #[.int .i64 t102, .slice Ao123 t103.length co123] 24 (0, 0)) (bk BK106) hb); have n6_ := Aside0.mk (below_step (bl HB) hb); clear HO105; clear HO110; clear HO115; clear HO117; clear BK101; clear BK106; clear HB; have HO105 := n0_; have HO110 := n1_; have HO115 := n2_; have HO117 := n3_; have BK101 := n4_; have BK106 := n5_; have HB := n6_; clear n0_ n1_ n2_ n3_ n4_ n5_ n6_; (try clear hb); (try clear hb2); (try clear hk); (try clear hi); obtain ⟨Ao129, co129, eo129⟩ := Kd.R_slice HO110.out; subst eo129; obtain ⟨Ao130, co130, eo130⟩ := Kd.R_slice HO115.out; subst eo130; obtain ⟨Ao131, co131, eo131⟩ := Kd.S_slice HO117.out; subst eo131) | (go_at_call 18; (with_reducible refine (Rx.gamplaw04_lives.calls k  t119 _ A116.out).mono ?_); rintro e w132 ⟨rfl, hb⟩; have n0_ := Aside0.mk (Kd.R_below (rl HO105) hb); have n1_ := Aside0.mk (Kd.R_below (rl HO110) hb); have n2_ := Aside0.mk (Kd.R_below (rl HO115) hb); have n3_ := Aside0.mk (Kd.S_below (by (with_reducible repeat (first | apply Kd.S_alloc | apply Kd.S_drewN | apply Kd.S_drew)); exact HO117.out) hb); have n4_ := Aside0.mk (blk_below (g := gb101) (o := .cells #[.int .i64 a0_0, .slice A0_1 l0_1.length c0_1] 24 (0, 0)) (bk BK101) hb); have n5_ := Aside0.mk (blk_below (g := gb106) (o := .cells #[.int .i64 t102, .slice Ao123 t103.length co123] 24 (0, 0)) (bk BK106) hb); have n6_ := Aside0.mk (below_step (bl HB) hb); clear HO105; clear HO110; clear HO115; clear HO117; clear BK101; clear BK106; clear HB; have HO105 := n0_; have HO110 := n1_; have HO115 := n2_; have HO117 := n3_; have BK101 := n4_; have BK106 := n5_; have HB := n6_; clear n0_ n1_ n2_ n3_ n4_ n5_ n6_; (try clear hb); (try clear hb2); (try clear hk); (try clear hi)))
     go_ret
     exact ⟨by first | rfl | (simp [errW_none, errW_some] <;> rfl) | (simp [*, errW_none, errW_some] <;> rfl), by repeat (first | (with_reducible first | exact HB.out | apply below_alloc | apply pw_below_drewN | apply below_drew1 | refine below_set ?_ GE101.out | refine below_set ?_ GE106.out) | exact HB.out)⟩
    ·rw [if_neg c115] at H
     have c115b0 : (t113 == t118) = false := beq_eq_false_iff_ne.mpr c115
     have c115b1 : (t113 != t118) = true := bne_iff_ne.mpr c115
     rw [hrt] at H
     cases H
   ·rw [if_neg c114] at H
    have c114b0 : (t108 == t118) = false := beq_eq_false_iff_ne.mpr c114
    have c114b1 : (t108 != t118) = true := bne_iff_ne.mpr c114
    rw [hrt] at H
    cases H
  ·rw [if_neg c113] at H
   have c113b0 : ((wrap64 ((wrap64 ((t107.length : Int) + (t111.length : Int))) + (t112.length : Int))) == 0) = false := beq_eq_false_iff_ne.mpr c113
   have c113b1 : ((wrap64 ((wrap64 ((t107.length : Int) + (t111.length : Int))) + (t112.length : Int))) != 0) = true := bne_iff_ne.mpr c113
   rw [hrt] at H
   cases H
end Go.Proofs.Ytdpolfflemocaaa.Rh

/- The declarations of Rxx11 that the claim Qy needs. -/
import Derived.Test.YtdpolfflemocaaaQyTkP
import Derived.Test.YtdpolfflemocaaaQyRxx0
import Derived.Test.YtdpolfflemocaaaQyRxx9
import Derived.Test.YtdpolfflemocaaaQyRxx10
namespace Go.Proofs.Ytdpolfflemocaaa.Rx
open Go.RowKit Go.Proofs.Ytdpolfflemocaaa.Own Go.Proofs.YtdpolfflemocaaaW.PrintWords Go.Proofs.YtdpolfflemocaaaW.PrintLast Go.Proofs.YtdpolfflemocaaaW.PrintMore
attribute [local go_sem] max2_int min2_int max_two min_two max_three min_three max_four min_four
set_option linter.unusedVariables false
set_option linter.unusedSimpArgs false
mutual
def rib_IsTree.l0 : Nat → Int → List (S52) → List Int → List Int → List (S52) → Int → Int → Option (Bool × Int)
  | 0, _, _, _, _, _, _, _ => none
  | k + 1, x0, x2, x10, x11, x40, x41, x42 => if x42 < x41 then (if 0 ≤ x42 then (if x42 < (x40.length : Int) then (if ((rd_T52 x40 x42).f0) < 0 then (rib_IsTree.j1 k x0 x2 x10 x11 x40 x41 x42 true ((rd_T52 x40 x42).f0) ((rd_T52 x40 x42).f1)) else (if ((rd_T52 x40 x42).f0) ≥ ((rd_T52 x40 x42).f1) then (rib_IsTree.j1 k x0 x2 x10 x11 x40 x41 x42 true ((rd_T52 x40 x42).f0) ((rd_T52 x40 x42).f1)) else (if ((rd_T52 x40 x42).f1) ≥ (x10.length : Int) then (rib_IsTree.j1 k x0 x2 x10 x11 x40 x41 x42 true ((rd_T52 x40 x42).f0) ((rd_T52 x40 x42).f1)) else ((rib_find.f k x11 ((rd_T52 x40 x42).f0)).bind fun t282 => ((rib_find.f k x11 ((rd_T52 x40 x42).f1)).bind fun t283 => (rib_IsTree.j1 k x0 x2 x10 x11 x40 x41 x42 (t282 == t283) ((rd_T52 x40 x42).f0) ((rd_T52 x40 x42).f1))))))) else (none)) else (none)) else (rib_IsTree.l1 k x2 x10 x0 0)
def rib_IsTree.j1 : Nat → Int → List (S52) → List Int → List Int → List (S52) → Int → Int → Bool → Int → Int → Option (Bool × Int)
  | 0, _, _, _, _, _, _, _, _, _, _ => none
  | k + 1, x0, x2, x10, x11, x40, x41, x42, x73, x282000, x282001 => if x73 = true then (some (false, 0)) else ((rib_find.f k x11 x282000).bind fun t284 => ((rib_find.f k x11 x282001).bind fun t285 => (if 0 ≤ t284 then (if t284 < (x11.length : Int) then (rib_IsTree.l0 k x0 x2 x10 (x11.set (t284 : Int).toNat t285) x40 x41 (wrap64 (x42 + 1))) else (none)) else (none))))
def rib_IsTree.l1 : Nat → List (S52) → List Int → Int → Int → Option (Bool × Int)
  | 0, _, _, _, _ => none
  | k + 1, x2, x10, x85, x86 => if x86 < x85 then (rib_IsTree.l2 k x2 x10 x86 0 0 x85 x86 x10 (x10.length : Int) 0) else (some (true, 0))
def rib_IsTree.l2 : Nat → List (S52) → List Int → Int → Int → Int → Int → Int → List Int → Int → Int → Option (Bool × Int)
  | 0, _, _, _, _, _, _, _, _, _, _ => none
  | k + 1, x2, x10, x14, x15, x16, x85, x86, x89, x90, x91 => if x91 < x90 then (if 0 ≤ x91 then (if x91 < (x89.length : Int) then ((rib_set_has.f (rd x89 x91) x14).bind fun t288 => (if t288 = true then (rib_IsTree.l2 k x2 x10 x14 (wrap64 (x15 + 1)) x16 x85 x86 x89 x90 (wrap64 (x91 + 1))) else (rib_IsTree.l2 k x2 x10 x14 x15 x16 x85 x86 x89 x90 (wrap64 (x91 + 1))))) else (none)) else (none)) else (rib_IsTree.l3 k x2 x10 x14 x15 x16 x85 x86 x2 (x2.length : Int) 0)
def rib_IsTree.l3 : Nat → List (S52) → List Int → Int → Int → Int → Int → Int → List (S52) → Int → Int → Option (Bool × Int)
  | 0, _, _, _, _, _, _, _, _, _, _ => none
  | k + 1, x2, x10, x14, x15, x16, x85, x86, x101, x102, x103 => if x103 < x102 then (if 0 ≤ x103 then (if x103 < (x101.length : Int) then (if 0 ≤ ((rd_T52 x101 x103).f0) then (if ((rd_T52 x101 x103).f0) < (x10.length : Int) then (if 0 ≤ ((rd_T52 x101 x103).f1) then (if ((rd_T52 x101 x103).f1) < (x10.length : Int) then ((rib_set_has.f (Go.bits .and .u32 (rd x10 ((rd_T52 x101 x103).f0)) (rd x10 ((rd_T52 x101 x103).f1))) x14).bind fun t293 => (if t293 = true then (rib_IsTree.l3 k x2 x10 x14 x15 (wrap64 (x16 + 1)) x85 x86 x101 x102 (wrap64 (x103 + 1))) else (rib_IsTree.l3 k x2 x10 x14 x15 x16 x85 x86 x101 x102 (wrap64 (x103 + 1))))) else (none)) else (none)) else (none)) else (none)) else (none)) else (none)) else (if x16 = (wrap64 (x15 - 1)) then (rib_IsTree.l1 k x2 x10 x85 (wrap64 (x86 + 1))) else (some (false, 0)))
end
def rib_IsTree.f (k : Nat) (a0 : Int) (l1 : List (S52)) (l2 : List (S52)) : Option (Bool × Int) := (rib_read.f k a0 l1).bind fun bt270 => (if bt270.2 = true then ((rib_maximal.f k bt270.1).bind fun t274 => (if (l2.length : Int) = (wrap64 ((t274.length : Int) - 1)) then ((rib_numbers.f k (t274.length : Int)).bind fun t277 => (rib_IsTree.l0 k a0 l2 t274 t277 l2 (l2.length : Int) 0)) else (some (false, 0)))) else (some (false, 1)))
def rib_IsTree.T11 : Bool × List (List Nat × List Nat) := (true, [([], []), ([0], [0]), ([1], [1]), ([2], [2]), ([3], [3]), ([4, 3], [3, 4]), ([3], [3]), ([6, 3], [3, 6]), ([5, 7, 3], [3, 5, 7]), ([3, 8], [3, 8]), ([9, 3], [9]), ([10], [10]), ([11, 10], [10, 11]), ([10], [10]), ([13, 10], [10, 13]), ([12, 14, 10], [10, 12, 14]), ([10, 15], [10, 15]), ([16, 10], [16]), ([17], [17]), ([17], [17]), ([19, 17], [17, 19]), ([18, 20, 17, 17], [17, 18, 20]), ([17], [17]), ([17], [17]), ([23, 17], [17, 23]), ([22, 24, 21, 17], [17, 22, 24]), ([21, 25, 17], [17, 21, 25]), ([17, 26], [17, 26])])
def rib_IsTree.B11 : List Nat := [0, 1, 3, 7, 15, 31, 15, 79, 255, 511, 1023, 2047, 4095, 2047, 10239, 32767, 65535, 131071, 262143, 262143, 786431, 2097151, 262143, 262143, 8650751, 33554431, 67108863, 134217727]
theorem rib_IsTree.tab11 : rtab .any (opsOf Try.f21 11) = rib_IsTree.T11 := by kernel_rfl
theorem rib_IsTree.bits11 : waitsOk rib_IsTree.T11.2 rib_IsTree.B11 = true := by kernel_rfl
def rib_IsTree.T13 : Bool × List (List Nat × List Nat) := (true, [([], []), ([], []), ([], []), ([2], [2]), ([1, 3], [1, 3]), ([], []), ([], []), ([6], [6]), ([5, 7, 4], [5, 7]), ([0, 4, 0, 1, 2, 3, 4, 5, 6, 7, 8], [0, 4]), ([9, 8, 8, 0, 1, 2, 3, 4, 5, 6, 7, 8], [8, 9])])
def rib_IsTree.B13 : List Nat := [0, 0, 0, 4, 14, 0, 0, 64, 254, 511, 1023]
theorem rib_IsTree.tab13 : rtab .any (opsOf Try.f21 13) = rib_IsTree.T13 := by kernel_rfl
theorem rib_IsTree.bits13 : waitsOk rib_IsTree.T13.2 rib_IsTree.B13 = true := by kernel_rfl
def rib_IsTree.T28 : Bool × List (List Nat × List Nat) := (true, [([], []), ([], []), ([1], [1]), ([0, 2], [0, 2]), ([3], [3]), ([], []), ([], []), ([6], [6]), ([5, 7], [5, 7]), ([8], [8]), ([4, 9], [4, 9]), ([], []), ([10, 11], [10, 11])])
def rib_IsTree.B28 : List Nat := [0, 0, 2, 7, 15, 0, 0, 64, 224, 480, 1023, 0, 4095]
theorem rib_IsTree.tab28 : rtab .any (opsOf Try.f21 28) = rib_IsTree.T28 := by kernel_rfl
theorem rib_IsTree.bits28 : waitsOk rib_IsTree.T28.2 rib_IsTree.B28 = true := by kernel_rfl
set_option maxHeartbeats 8000000 in
set_option maxRecDepth 100000 in
theorem rib_IsTree.calls (k : Nat) (a0 : Int) (A1 : Option Addr) (c1 : Nat) (l1 : List (S52)) (A2 : Option Addr) (c2 : Nat) (l2 : List (S52)) (r1 : Bool) (r2 : Int) (w : World) (hr1 : Kd.C k52 w A1 l1.length l1) (hc1 : l1.length ≤ c1) (hr2 : Kd.C k52 w A2 l2.length l2) (hc2 : l2.length ≤ c2) (h : rib_IsTree.f k a0 l1 l2 = some (r1, r2)) :
  Calls Try.prog 21 #[.int .i64 a0, .slice A1 l1.length c1, .slice A2 l2.length c2] w fun e w' => e = .returned (.tuple #[.bool r1, .int .i64 r2]) ∧ Below w.heap.size w w' := by
 have hu52 := Try.underlying52
 have HR1 := Aside0.mk hr1
 have HC1 := Aside0.mk hc1
 clear hr1 hc1
 have HR2 := Aside0.mk hr2
 have HC2 := Aside0.mk hc2
 clear hr2 hc2
 have HB := Aside0.mk (Below.refl w.heap.size w)
 have H : ((rib_read.f k a0 l1).bind fun bt270 => (if bt270.2 = true then ((rib_maximal.f k bt270.1).bind fun t274 => (if (l2.length : Int) = (wrap64 ((t274.length : Int) - 1)) then ((rib_numbers.f k (t274.length : Int)).bind fun t277 => (rib_IsTree.l0 k a0 l2 t274 t277 l2 (l2.length : Int) 0)) else (some (false, 0)))) else (some (false, 1)))) = some (r1, r2) := h
 clear h
 replace H := Option.bind_eq_some_iff.mp H
 obtain ⟨⟨t270, t271⟩, A40, H⟩ := H
 replace H : (if t271 = true then ((rib_maximal.f k t270).bind fun t274 => (if (l2.length : Int) = (wrap64 ((t274.length : Int) - 1)) then ((rib_numbers.f k (t274.length : Int)).bind fun t277 => (rib_IsTree.l0 k a0 l2 t274 t277 l2 (l2.length : Int) 0)) else (some (false, 0)))) else (some (false, 1))) = some (r1, r2) := H
 have A4 := Aside0.mk A40
 clear A40
 by_cases c5 : t271 = true
 ·subst c5
  have H1 : ((rib_maximal.f k t270).bind fun t274 => (if (l2.length : Int) = (wrap64 ((t274.length : Int) - 1)) then ((rib_numbers.f k (t274.length : Int)).bind fun t277 => (rib_IsTree.l0 k a0 l2 t274 t277 l2 (l2.length : Int) 0)) else (some (false, 0)))) = some (r1, r2) := by rw [if_pos rfl] at H; exact H
  clear H
  have H := H1
  clear H1
  replace H := Option.bind_eq_some_iff.mp H
  obtain ⟨t274, A60, H⟩ := H
  replace H : (if (l2.length : Int) = (wrap64 ((t274.length : Int) - 1)) then ((rib_numbers.f k (t274.length : Int)).bind fun t277 => (rib_IsTree.l0 k a0 l2 t274 t277 l2 (l2.length : Int) 0)) else (some (false, 0))) = some (r1, r2) := H
  have A6 := Aside0.mk A60
  clear A60
  by_cases c7 : (l2.length : Int) = (wrap64 ((t274.length : Int) - 1))
  ·rw [if_pos c7] at H
   have c7b0 : ((l2.length : Int) == (wrap64 ((t274.length : Int) - 1))) = true := beq_iff_eq.mpr c7
   have c7b1 : ((l2.length : Int) != (wrap64 ((t274.length : Int) - 1))) = false := bne_eq_false_iff_eq.mpr c7
   clear c7
   replace H := Option.bind_eq_some_iff.mp H
   obtain ⟨t277, A80, H⟩ := H
   replace H : (rib_IsTree.l0 k a0 l2 t274 t277 l2 (l2.length : Int) 0) = some (r1, r2) := H
   have A8 := Aside0.mk A80
   clear A80
   have H' := Aside0.mk H
   clear H
   go_enter Try.func21, Try.ntmps21
   go_wp2_with (first | ((with_reducible refine gate_callee (f := 52) rfl ?_); refine gL 24 Try.func52 #[.int .i64 a0, .slice A1 l1.length c1] ?_; (with_reducible refine (rib_read.calls k a0 _ _ l1 t270 true _ ?side1 ?side2 A4.out).mono ?_); (case side1 => exact cl (HR1.out)); (case side2 => exact HC1.out); rintro e w9 ⟨v272, rfl, ho0, hb⟩; refine ⟨_, rfl, ?_⟩; have n0_ := Aside0.mk (Kd.R_lower ho0 (below_size (bl HB))); have n1_ := Aside0.mk (below_step (bl HB) hb); clear HB; have HO273 := n0_; have HB := n1_; clear n0_ n1_; (try clear hb); (try clear hb2); (try clear hk); (try clear hi); (try clear ho0); obtain ⟨Ao10, co10, eo10⟩ := Kd.R_slice HO273.out; subst eo10) | ((with_reducible refine gate_callee (f := 54) rfl ?_); refine gL 30 Try.func54 #[.slice Ao10 t270.length co10] ?_; (with_reducible refine (rib_maximal.calls k _ _ t270 t274 _ ?side1 ?side2 A6.out).mono ?_); (case side1 => exact cl ((Kd.R_reads' HO273.out).2.2)); (case side2 => exact (Kd.R_reads' HO273.out).2.1); rintro e w11 ⟨v275, rfl, ho0, hb⟩; refine ⟨_, rfl, ?_⟩; have n0_ := Aside0.mk (Kd.R_elder' (rl HO273) (Kd.R_base ho0) hb); have n1_ := Aside0.mk (Kd.R_lower (Kd.R_new' ho0 (Kd.R_lt (rl HO273))) (below_size (bl HB))); have n2_ := Aside0.mk (below_step (bl HB) hb); clear HO273; clear HB; have HO273 := n0_; have HO276 := n1_; have HB := n2_; clear n0_ n1_ n2_; (try clear hb); (try clear hb2); (try clear hk); (try clear hi); (try clear ho0); obtain ⟨Ao12, co12, eo12⟩ := Kd.R_slice HO276.out; subst eo12) | ((with_reducible refine gate_callee (f := 58) rfl ?_); refine gL 39 Try.func58 #[.int .i64 (t274.length : Int)] ?_; (with_reducible refine (rib_numbers.calls k (t274.length : Int) t277 _ A8.out).mono ?_); rintro e w13 ⟨v278, rfl, ho0, hb⟩; refine ⟨_, rfl, ?_⟩; have n0_ := Aside0.mk (Kd.R_below (rl HO273) hb); have n1_ := Aside0.mk (Kd.R_below (rl HO276) hb); have n2_ := Aside0.mk (Kd.R_lower ho0 (below_size (bl HB))); have n3_ := Aside0.mk (below_step (bl HB) hb); clear HO273; clear HO276; clear HB; have HO273 := n0_; have HO276 := n1_; have HO279 := n2_; have HB := n3_; clear n0_ n1_ n2_ n3_; (try clear hb); (try clear hb2); (try clear hk); (try clear hi); (try clear ho0)))
   go_loopg [42] k (fun kq v42 w' => ∃ (x11_1 : List Int) (x42_1 : Int), v42 = .int .i64 x42_1 ∧ Aside0 (rib_IsTree.l0 kq a0 l2 t274 x11_1 l2 (l2.length : Int) x42_1 = some (r1, r2)) ∧ Aside0 (kq ≤ k) ∧ Aside0 (Kd.R (Kd.int .u32) 86 w' w.heap.size (fun _ => True) (.slice Ao12 t274.length co12) t274) ∧ Aside0 (Kd.R (Kd.int .i64) 3 w' w.heap.size (fun _ => True) v278 x11_1) ∧ Aside0 (Below w.heap.size w w'))
   case atStart => exact ⟨(t277), (0), (by first | rfl | (simp; done) | (simp [*]; done)), H', ⟨Nat.le_refl _⟩, ⟨by (with_reducible repeat (first | apply Kd.R_alloc | apply Kd.R_drewN | apply Kd.R_drew)); exact Kd.R_mono HO276.out (fun _ hk => trivial)⟩, ⟨rl HO279⟩, ⟨bl HB⟩⟩
   case round =>
    clear H'
    try clear c1
    try clear c2
    try clear p2
    try clear c5
    try clear p6
    try clear c7
    try clear c7b0
    try clear c7b1
    obtain ⟨x11_1, x42_1, rfl, HA, HK1, HO_10, HO_11, HB⟩ := hrel
    cases gk with
    | zero => exact absurd HA.out (by simp [rib_IsTree.l0])
    | succ k1 =>
     have H := HA.out
     clear HA
     simp only [rib_IsTree.l0] at H
     by_cases c14 : x42_1 < (l2.length : Int)
     ·rw [if_pos c14] at H
      have c14b0 : decide (x42_1 < (l2.length : Int)) = true := decide_eq_true c14
      clear c14
      by_cases c15 : 0 ≤ x42_1
      ·rw [if_pos c15] at H
       have c15b0 : decide (0 ≤ x42_1) = true := decide_eq_true c15
       clear c15
       by_cases c16 : x42_1 < (l2.length : Int)
       ·rw [if_pos c16] at H
        have c16b0 : decide (x42_1 < (l2.length : Int)) = true := decide_eq_true c16
        clear c16
        have HC17 := Aside0.mk H
        clear H
        have p280 : 0 ≤ (x42_1 : Int) := ofd
        have q280 : x42_1 < (l2.length : Int) := ofd
        obtain ⟨ad280, e280, hx280_0, hx280_1⟩ := at_T52 HR2.out x42_1 p280 q280
        cases e280
        replace hx280_0 := (HB.out.cell (World.block_lt_of_cell? w _ hx280_0)).trans hx280_0
        replace hx280_1 := (HB.out.cell (World.block_lt_of_cell? w _ hx280_1)).trans hx280_1
        replace p280 := eq_true p280
        replace q280 := eq_true q280
        go_upto_region 11 with (first | ((with_reducible refine gate_dst (N := 13) rfl ?_); (try (refine gate_guard (by rfl) ?_; dsimp only)); refine box_event ?hg (N := 13) ?hd (cs := #[.int .i64 0, .int .i64 0]) (t := 52) ?hr ?_; (case hd => rfl); (case hg => rfl); (case hr => first | (go_simp; done) | (go_simp; rfl)); intro gb281 hg w18 hbox hb; have n0_ := Aside0.mk (Kd.R_below (rl HO_10) hb); have n1_ := Aside0.mk (Kd.R_below (rl HO_11) hb); have n2_ := Aside0.mk (below_step (bl HB) hb); have n3_ := Aside0.mk (hbox); have n4_ := Aside0.mk ((by rw [hg]; exact (below_size (bl HB)) : w.heap.size ≤ gb281)); have n5_ := Aside0.mk ((by rw [hg]; exact (below_size (bl HB)) : w.heap.size ≤ gb281)); clear HO_10; clear HO_11; clear HB; have HO_10 := n0_; have HO_11 := n1_; have HB := n2_; have BK281 := n3_; have GW281 := n4_; have GE281 := n5_; clear n0_ n1_ n2_ n3_ n4_ n5_; clear hb hbox hg; have hcz19_0 : w18.cell? ⟨gb281, 0, none⟩ = some (.int .i64 0) := (blk_cell BK281.out 0).trans rfl; have hcz19_1 : w18.cell? ⟨gb281, 1, none⟩ = some (.int .i64 0) := (blk_cell BK281.out 1).trans rfl; have hfz19_0 := blk_frozen BK281.out 0; have hfz19_1 := blk_frozen BK281.out 1))
        (try simp only [Act.put, List.setIfInBounds_toArray, List.set_cons_zero, List.set_cons_succ])
        go_cut [73] (fun v73 wc => ∃ (kq : Nat) (x73_16 : Bool), v73 = .bool x73_16 ∧ Aside0 (rib_IsTree.j1 kq a0 l2 t274 x11_1 l2 (l2.length : Int) x42_1 x73_16 ((rd_T52 l2 x42_1).f0) ((rd_T52 l2 x42_1).f1) = some (r1, r2)) ∧ Aside0 (kq ≤ k1) ∧ Aside0 (Kd.R (Kd.int .u32) 86 wc w.heap.size (fun _ => True) (.slice Ao12 t274.length co12) t274) ∧ Aside0 (Kd.R (Kd.int .i64) 3 wc w.heap.size (fun _ => True) v278 x11_1) ∧ Aside0 (wc.heap[gb281]? = some (.cells #[.int .i64 ((rd_T52 l2 x42_1).f0), .int .i64 ((rd_T52 l2 x42_1).f1)] 52 (0, 0))) ∧ Aside0 (Below w.heap.size w wc))
        case first =>
         have H := HC17.out
         clear HC17
         by_cases c20 : ((rd_T52 l2 x42_1).f0) < 0
         ·rw [if_pos c20] at H
          have c20b0 : decide (((rd_T52 l2 x42_1).f0) < 0) = true := decide_eq_true c20
          clear c20
          (first | rw [c20b0] | (simp only [i64_w, i32_w]; rw [c20b0]) | skip)
          have H' := Aside0.mk H
          clear H
          try go_wp2
          have n0_ : Aside0 (Kd.R (Kd.int .u32) 86 ((w18.setCell ⟨gb281, 0, none⟩ (.int .i64 ((rd_T52 l2 x42_1).f0))).setCell ⟨gb281, 1, none⟩ (.int .i64 ((rd_T52 l2 x42_1).f1))) w.heap.size (fun _ => True) (.slice Ao12 t274.length co12) t274) := ⟨by (with_reducible repeat (first | apply Kd.R_alloc | apply Kd.R_drewN | apply Kd.R_drew)); exact Kd.R_mono (Kd.R_far (p := ⟨gb281, 1, none⟩) (Kd.R_far (p := ⟨gb281, 0, none⟩) (Kd.R_types HO_10.out BK281.out (by decide)) (fun _ hk => hk.2) (.int .i64 ((rd_T52 l2 x42_1).f0))) (fun _ hk => hk.2) (.int .i64 ((rd_T52 l2 x42_1).f1))) (fun _ hk => trivial)⟩
          have n1_ : Aside0 (Kd.R (Kd.int .i64) 3 ((w18.setCell ⟨gb281, 0, none⟩ (.int .i64 ((rd_T52 l2 x42_1).f0))).setCell ⟨gb281, 1, none⟩ (.int .i64 ((rd_T52 l2 x42_1).f1))) w.heap.size (fun _ => True) v278 x11_1) := ⟨by (with_reducible repeat (first | apply Kd.R_alloc | apply Kd.R_drewN | apply Kd.R_drew)); exact Kd.R_mono (Kd.R_far (p := ⟨gb281, 1, none⟩) (Kd.R_far (p := ⟨gb281, 0, none⟩) (Kd.R_types HO_11.out BK281.out (by decide)) (fun _ hk => hk.2) (.int .i64 ((rd_T52 l2 x42_1).f0))) (fun _ hk => hk.2) (.int .i64 ((rd_T52 l2 x42_1).f1))) (fun _ hk => trivial)⟩
          have n2_ : Aside0 (((w18.setCell ⟨gb281, 0, none⟩ (.int .i64 ((rd_T52 l2 x42_1).f0))).setCell ⟨gb281, 1, none⟩ (.int .i64 ((rd_T52 l2 x42_1).f1))).heap[gb281]? = some (.cells #[.int .i64 ((rd_T52 l2 x42_1).f0), .int .i64 ((rd_T52 l2 x42_1).f1)] 52 (0, 0))) := ⟨by (with_reducible repeat (first | refine blk_drewN ?_ _ | refine blk_drew ?_ | refine blk_alloc ?_ _)); refine blk_put (cs := #[.int .i64 ((rd_T52 l2 x42_1).f0), .int .i64 0]) ?_ 1 _ rfl; (with_reducible repeat (first | refine blk_drewN ?_ _ | refine blk_drew ?_ | refine blk_alloc ?_ _)); refine blk_put (cs := #[.int .i64 0, .int .i64 0]) ?_ 0 _ rfl; (with_reducible repeat (first | refine blk_drewN ?_ _ | refine blk_drew ?_ | refine blk_alloc ?_ _)); exact BK281.out⟩
          have n3_ : Aside0 (Below w.heap.size w ((w18.setCell ⟨gb281, 0, none⟩ (.int .i64 ((rd_T52 l2 x42_1).f0))).setCell ⟨gb281, 1, none⟩ (.int .i64 ((rd_T52 l2 x42_1).f1)))) := ⟨bl HB⟩
          (try clear HO_10)
          (try clear HO_11)
          (try clear BK281)
          (try clear HB)
          generalize ((w18.setCell ⟨gb281, 0, none⟩ (.int .i64 ((rd_T52 l2 x42_1).f0))).setCell ⟨gb281, 1, none⟩ (.int .i64 ((rd_T52 l2 x42_1).f1))) = w21 at n0_ n1_ n2_ n3_ ⊢
          have HO_10 := n0_; have HO_11 := n1_; have BK281 := n2_; have HB := n3_
          clear n0_ n1_ n2_ n3_
          have n0_ := Aside0.mk (Kd.R_drew HO_10.out)
          have n1_ := Aside0.mk (Kd.R_drew HO_11.out)
          have n2_ := Aside0.mk (blk_drew BK281.out)
          have n3_ := Aside0.mk (below_drew1 HB.out)
          clear HO_10 HO_11 BK281 HB
          have HO_10 := n0_; have HO_11 := n1_; have BK281 := n2_; have HB := n3_
          clear n0_ n1_ n2_ n3_
          refine start_ (n := 28) (S := fun w' => w'.cell? ⟨gb281, 0, none⟩ = some (.int .i64 ((rd_T52 l2 x42_1).f0)) ∧ w'.cell? ⟨gb281, 1, none⟩ = some (.int .i64 ((rd_T52 l2 x42_1).f1))) (ds := []) #[false, false, false, false, false, false, false, false, false, false, false, false, false, false, false, false, false, false, false, false, false, false, false, false, false, false, false, false] (by kernel_rfl) rfl rfl ⟨(blk_cell BK281.out 0).trans rfl, (blk_cell BK281.out 1).trans rfl⟩ (fun hHeld => ?_); refine with_tabW rib_IsTree.tab11 rib_IsTree.bits11 (fun HT_ HW_ => ?_)
          generalize w21.drew = w22 at HO_10 HO_11 BK281 HB hHeld ⊢
          refine pr 0 46 HT_ ?_
          refine tr 1 47 HT_ HW_ hHeld ?_
          refine pr 2 48 HT_ ?_
          refine pr 3 49 HT_ ?_
          refine pure_ (i := 4) (N := some 50) (v := undef) (a' := ?_) #[true, true, true, true, true, false, false, false, false, false, false, false, false, false, false, false, false, false, false, false, false, false, false, false, false, false, false, false] rfl rfl (any_of HT_.out (by kernel_rfl)) (fun _ _ _ h => h) (Or.inr ⟨by rfl, rfl⟩) ?_ ?_
          rotate_left
          ·simp only [Act.put, List.setIfInBounds_toArray, List.set_cons_zero, List.set_cons_succ, i64_w, i32_w]
           rfl
          refine pure_ (i := 5) (N := some 51) (v := undef) (a' := ?_) #[true, true, true, true, true, true, false, false, false, false, false, false, false, false, false, false, false, false, false, false, false, false, false, false, false, false, false, false] rfl rfl (any_of HT_.out (by kernel_rfl)) (fun _ _ _ h => h) (Or.inr ⟨by rfl, rfl⟩) ?_ ?_
          rotate_left
          ·simp only [Act.put, List.setIfInBounds_toArray, List.set_cons_zero, List.set_cons_succ, i64_w, i32_w]
           rfl
          refine pure_ (i := 6) (N := some 52) (v := undef) (a' := ?_) #[true, true, true, true, true, true, true, false, false, false, false, false, false, false, false, false, false, false, false, false, false, false, false, false, false, false, false, false] rfl rfl (any_of HT_.out (by kernel_rfl)) (fun _ _ _ h => h) (Or.inr ⟨by rfl, rfl⟩) ?_ ?_
          rotate_left
          ·simp only [Act.put, List.setIfInBounds_toArray, List.set_cons_zero, List.set_cons_succ, i64_w, i32_w]
           rfl
          refine pure_ (i := 7) (N := some 53) (v := undef) (a' := ?_) #[true, true, true, true, true, true, true, true, false, false, false, false, false, false, false, false, false, false, false, false, false, false, false, false, false, false, false, false] rfl rfl (any_of HT_.out (by kernel_rfl)) (fun _ _ _ h => h) (Or.inr ⟨by rfl, rfl⟩) ?_ ?_
          rotate_left
          ·simp only [Act.put, List.setIfInBounds_toArray, List.set_cons_zero, List.set_cons_succ, i64_w, i32_w]
           rfl
          refine pure_ (i := 8) (N := some 54) (v := undef) (a' := ?_) #[true, true, true, true, true, true, true, true, true, false, false, false, false, false, false, false, false, false, false, false, false, false, false, false, false, false, false, false] rfl rfl (any_of HT_.out (by kernel_rfl)) (fun _ _ _ h => h) (Or.inr ⟨by rfl, rfl⟩) ?_ ?_
          rotate_left
          ·simp only [Act.put, List.setIfInBounds_toArray, List.set_cons_zero, List.set_cons_succ, i64_w, i32_w]
           rfl
          refine pr 9 55 HT_ ?_
          refine pr 10 56 HT_ ?_
          refine pure_ (i := 11) (N := some 57) (v := undef) (a' := ?_) #[true, true, true, true, true, true, true, true, true, true, true, true, false, false, false, false, false, false, false, false, false, false, false, false, false, false, false, false] rfl rfl (any_of HT_.out (by kernel_rfl)) (fun _ _ _ h => h) (Or.inr ⟨by rfl, rfl⟩) ?_ ?_
          rotate_left
          ·simp only [Act.put, List.setIfInBounds_toArray, List.set_cons_zero, List.set_cons_succ, i64_w, i32_w]
           rfl
          refine pure_ (i := 12) (N := some 58) (v := undef) (a' := ?_) #[true, true, true, true, true, true, true, true, true, true, true, true, true, false, false, false, false, false, false, false, false, false, false, false, false, false, false, false] rfl rfl (any_of HT_.out (by kernel_rfl)) (fun _ _ _ h => h) (Or.inr ⟨by rfl, rfl⟩) ?_ ?_
          rotate_left
          ·simp only [Act.put, List.setIfInBounds_toArray, List.set_cons_zero, List.set_cons_succ, i64_w, i32_w]
           rfl
          refine pure_ (i := 13) (N := some 59) (v := undef) (a' := ?_) #[true, true, true, true, true, true, true, true, true, true, true, true, true, true, false, false, false, false, false, false, false, false, false, false, false, false, false, false] rfl rfl (any_of HT_.out (by kernel_rfl)) (fun _ _ _ h => h) (Or.inr ⟨by rfl, rfl⟩) ?_ ?_
          rotate_left
          ·simp only [Act.put, List.setIfInBounds_toArray, List.set_cons_zero, List.set_cons_succ, i64_w, i32_w]
           rfl
          refine pure_ (i := 14) (N := some 60) (v := undef) (a' := ?_) #[true, true, true, true, true, true, true, true, true, true, true, true, true, true, true, false, false, false, false, false, false, false, false, false, false, false, false, false] rfl rfl (any_of HT_.out (by kernel_rfl)) (fun _ _ _ h => h) (Or.inr ⟨by rfl, rfl⟩) ?_ ?_
          rotate_left
          ·simp only [Act.put, List.setIfInBounds_toArray, List.set_cons_zero, List.set_cons_succ, i64_w, i32_w]
           rfl
          refine pure_ (i := 15) (N := some 61) (v := undef) (a' := ?_) #[true, true, true, true, true, true, true, true, true, true, true, true, true, true, true, true, false, false, false, false, false, false, false, false, false, false, false, false] rfl rfl (any_of HT_.out (by kernel_rfl)) (fun _ _ _ h => h) (Or.inr ⟨by rfl, rfl⟩) ?_ ?_
          rotate_left
          ·simp only [Act.put, List.setIfInBounds_toArray, List.set_cons_zero, List.set_cons_succ, i64_w, i32_w]
           rfl
          refine pr 16 62 HT_ ?_
          refine pr 17 63 HT_ ?_
          refine pure_ (i := 18) (N := some 64) (v := undef) (a' := ?_) #[true, true, true, true, true, true, true, true, true, true, true, true, true, true, true, true, true, true, true, false, false, false, false, false, false, false, false, false] rfl rfl (any_of HT_.out (by kernel_rfl)) (fun _ _ _ h => h) (Or.inr ⟨by rfl, rfl⟩) ?_ ?_
          rotate_left
          ·simp only [Act.put, List.setIfInBounds_toArray, List.set_cons_zero, List.set_cons_succ, i64_w, i32_w]
           rfl
          refine pure_ (i := 19) (N := some 65) (v := undef) (a' := ?_) #[true, true, true, true, true, true, true, true, true, true, true, true, true, true, true, true, true, true, true, true, false, false, false, false, false, false, false, false] rfl rfl (any_of HT_.out (by kernel_rfl)) (fun _ _ _ h => h) (Or.inr ⟨by rfl, rfl⟩) ?_ ?_
          rotate_left
          ·simp only [Act.put, List.setIfInBounds_toArray, List.set_cons_zero, List.set_cons_succ, i64_w, i32_w]
           rfl
          refine pure_ (i := 20) (N := some 66) (v := undef) (a' := ?_) #[true, true, true, true, true, true, true, true, true, true, true, true, true, true, true, true, true, true, true, true, true, false, false, false, false, false, false, false] rfl rfl (any_of HT_.out (by kernel_rfl)) (fun _ _ _ h => h) (Or.inr ⟨by rfl, rfl⟩) ?_ ?_
          rotate_left
          ·simp only [Act.put, List.setIfInBounds_toArray, List.set_cons_zero, List.set_cons_succ, i64_w, i32_w]
           rfl
          refine pure_ (i := 21) (N := some 67) (v := undef) (a' := ?_) #[true, true, true, true, true, true, true, true, true, true, true, true, true, true, true, true, true, true, true, true, true, true, false, false, false, false, false, false] rfl rfl (any_of HT_.out (by kernel_rfl)) (fun _ _ _ h => h) (Or.inr ⟨by rfl, rfl⟩) ?_ ?_
          rotate_left
          ·simp only [Act.put, List.setIfInBounds_toArray, List.set_cons_zero, List.set_cons_succ, i64_w, i32_w]
           rfl
          refine pure_ (i := 22) (N := some 68) (v := undef) (a' := ?_) #[true, true, true, true, true, true, true, true, true, true, true, true, true, true, true, true, true, true, true, true, true, true, true, false, false, false, false, false] rfl rfl (any_of HT_.out (by kernel_rfl)) (fun _ _ _ h => h) (Or.inr ⟨by rfl, rfl⟩) ?_ ?_
          rotate_left
          ·simp only [Act.put, List.setIfInBounds_toArray, List.set_cons_zero, List.set_cons_succ, i64_w, i32_w]
           rfl
          refine pure_ (i := 23) (N := some 69) (v := undef) (a' := ?_) #[true, true, true, true, true, true, true, true, true, true, true, true, true, true, true, true, true, true, true, true, true, true, true, true, false, false, false, false] rfl rfl (any_of HT_.out (by kernel_rfl)) (fun _ _ _ h => h) (Or.inr ⟨by rfl, rfl⟩) ?_ ?_
          rotate_left
          ·simp only [Act.put, List.setIfInBounds_toArray, List.set_cons_zero, List.set_cons_succ, i64_w, i32_w]
           rfl
          refine pure_ (i := 24) (N := some 70) (v := undef) (a' := ?_) #[true, true, true, true, true, true, true, true, true, true, true, true, true, true, true, true, true, true, true, true, true, true, true, true, true, false, false, false] rfl rfl (any_of HT_.out (by kernel_rfl)) (fun _ _ _ h => h) (Or.inr ⟨by rfl, rfl⟩) ?_ ?_
          rotate_left
          ·simp only [Act.put, List.setIfInBounds_toArray, List.set_cons_zero, List.set_cons_succ, i64_w, i32_w]
           rfl
          refine pure_ (i := 25) (N := some 71) (v := undef) (a' := ?_) #[true, true, true, true, true, true, true, true, true, true, true, true, true, true, true, true, true, true, true, true, true, true, true, true, true, true, false, false] rfl rfl (any_of HT_.out (by kernel_rfl)) (fun _ _ _ h => h) (Or.inr ⟨by rfl, rfl⟩) ?_ ?_
          rotate_left
          ·simp only [Act.put, List.setIfInBounds_toArray, List.set_cons_zero, List.set_cons_succ, i64_w, i32_w]
           rfl
          refine pure_ (i := 26) (N := some 72) (v := undef) (a' := ?_) #[true, true, true, true, true, true, true, true, true, true, true, true, true, true, true, true, true, true, true, true, true, true, true, true, true, true, true, false] rfl rfl (any_of HT_.out (by kernel_rfl)) (fun _ _ _ h => h) (Or.inr ⟨by rfl, rfl⟩) ?_ ?_
          rotate_left
          ·simp only [Act.put, List.setIfInBounds_toArray, List.set_cons_zero, List.set_cons_succ, i64_w, i32_w]
           rfl
          refine pr 27 73 HT_ ?_
          refine dn HT_ ?_
          try go_wp2
          go_meet
          case rel => exact ⟨_, (true), (by first | rfl | (simp; done) | (simp [*]; done)), H', ⟨by have := HK1.out; first | omega | exact Nat.le_refl _⟩, ⟨rl HO_10⟩, ⟨rl HO_11⟩, ⟨bk BK281⟩, ⟨bl HB⟩⟩
         ·rw [if_neg c20] at H
          have c20b0 : decide (((rd_T52 l2 x42_1).f0) < 0) = false := decide_eq_false c20
          clear c20
          (first | rw [c20b0] | (simp only [i64_w, i32_w]; rw [c20b0]) | skip)
          by_cases c23 : ((rd_T52 l2 x42_1).f0) ≥ ((rd_T52 l2 x42_1).f1)
          ·rw [if_pos c23] at H
           have c23b0 : decide (((rd_T52 l2 x42_1).f1) ≤ ((rd_T52 l2 x42_1).f0)) = true := decide_eq_true c23
           clear c23
           have H' := Aside0.mk H
           clear H
           try go_wp2
           have n0_ : Aside0 (Kd.R (Kd.int .u32) 86 ((w18.setCell ⟨gb281, 0, none⟩ (.int .i64 ((rd_T52 l2 x42_1).f0))).setCell ⟨gb281, 1, none⟩ (.int .i64 ((rd_T52 l2 x42_1).f1))) w.heap.size (fun _ => True) (.slice Ao12 t274.length co12) t274) := ⟨by (with_reducible repeat (first | apply Kd.R_alloc | apply Kd.R_drewN | apply Kd.R_drew)); exact Kd.R_mono (Kd.R_far (p := ⟨gb281, 1, none⟩) (Kd.R_far (p := ⟨gb281, 0, none⟩) (Kd.R_types HO_10.out BK281.out (by decide)) (fun _ hk => hk.2) (.int .i64 ((rd_T52 l2 x42_1).f0))) (fun _ hk => hk.2) (.int .i64 ((rd_T52 l2 x42_1).f1))) (fun _ hk => trivial)⟩
           have n1_ : Aside0 (Kd.R (Kd.int .i64) 3 ((w18.setCell ⟨gb281, 0, none⟩ (.int .i64 ((rd_T52 l2 x42_1).f0))).setCell ⟨gb281, 1, none⟩ (.int .i64 ((rd_T52 l2 x42_1).f1))) w.heap.size (fun _ => True) v278 x11_1) := ⟨by (with_reducible repeat (first | apply Kd.R_alloc | apply Kd.R_drewN | apply Kd.R_drew)); exact Kd.R_mono (Kd.R_far (p := ⟨gb281, 1, none⟩) (Kd.R_far (p := ⟨gb281, 0, none⟩) (Kd.R_types HO_11.out BK281.out (by decide)) (fun _ hk => hk.2) (.int .i64 ((rd_T52 l2 x42_1).f0))) (fun _ hk => hk.2) (.int .i64 ((rd_T52 l2 x42_1).f1))) (fun _ hk => trivial)⟩
           have n2_ : Aside0 (((w18.setCell ⟨gb281, 0, none⟩ (.int .i64 ((rd_T52 l2 x42_1).f0))).setCell ⟨gb281, 1, none⟩ (.int .i64 ((rd_T52 l2 x42_1).f1))).heap[gb281]? = some (.cells #[.int .i64 ((rd_T52 l2 x42_1).f0), .int .i64 ((rd_T52 l2 x42_1).f1)] 52 (0, 0))) := ⟨by (with_reducible repeat (first | refine blk_drewN ?_ _ | refine blk_drew ?_ | refine blk_alloc ?_ _)); refine blk_put (cs := #[.int .i64 ((rd_T52 l2 x42_1).f0), .int .i64 0]) ?_ 1 _ rfl; (with_reducible repeat (first | refine blk_drewN ?_ _ | refine blk_drew ?_ | refine blk_alloc ?_ _)); refine blk_put (cs := #[.int .i64 0, .int .i64 0]) ?_ 0 _ rfl; (with_reducible repeat (first | refine blk_drewN ?_ _ | refine blk_drew ?_ | refine blk_alloc ?_ _)); exact BK281.out⟩
           have n3_ : Aside0 (Below w.heap.size w ((w18.setCell ⟨gb281, 0, none⟩ (.int .i64 ((rd_T52 l2 x42_1).f0))).setCell ⟨gb281, 1, none⟩ (.int .i64 ((rd_T52 l2 x42_1).f1)))) := ⟨bl HB⟩
           (try clear HO_10)
           (try clear HO_11)
           (try clear BK281)
           (try clear HB)
           generalize ((w18.setCell ⟨gb281, 0, none⟩ (.int .i64 ((rd_T52 l2 x42_1).f0))).setCell ⟨gb281, 1, none⟩ (.int .i64 ((rd_T52 l2 x42_1).f1))) = w24 at n0_ n1_ n2_ n3_ ⊢
           have HO_10 := n0_; have HO_11 := n1_; have BK281 := n2_; have HB := n3_
           clear n0_ n1_ n2_ n3_
           have n0_ := Aside0.mk (Kd.R_drew HO_10.out)
           have n1_ := Aside0.mk (Kd.R_drew HO_11.out)
           have n2_ := Aside0.mk (blk_drew BK281.out)
           have n3_ := Aside0.mk (below_drew1 HB.out)
           clear HO_10 HO_11 BK281 HB
           have HO_10 := n0_; have HO_11 := n1_; have BK281 := n2_; have HB := n3_
           clear n0_ n1_ n2_ n3_
           refine start_ (n := 28) (S := fun w' => w'.cell? ⟨gb281, 0, none⟩ = some (.int .i64 ((rd_T52 l2 x42_1).f0)) ∧ w'.cell? ⟨gb281, 1, none⟩ = some (.int .i64 ((rd_T52 l2 x42_1).f1))) (ds := []) #[false, false, false, false, false, false, false, false, false, false, false, false, false, false, false, false, false, false, false, false, false, false, false, false, false, false, false, false] (by kernel_rfl) rfl rfl ⟨(blk_cell BK281.out 0).trans rfl, (blk_cell BK281.out 1).trans rfl⟩ (fun hHeld => ?_); refine with_tabW rib_IsTree.tab11 rib_IsTree.bits11 (fun HT_ HW_ => ?_)
           generalize w24.drew = w25 at HO_10 HO_11 BK281 HB hHeld ⊢
           refine pr 0 46 HT_ ?_
           refine tr 1 47 HT_ HW_ hHeld ?_
           refine pr 2 48 HT_ ?_
           refine pr 3 49 HT_ ?_
           refine pr 4 50 HT_ ?_
           refine pr 6 52 HT_ ?_
           refine tr 5 51 HT_ HW_ hHeld ?_
           refine tr 7 53 HT_ HW_ hHeld ?_
           refine pr 8 54 HT_ ?_
           refine pr 9 55 HT_ ?_
           refine pr 10 56 HT_ ?_
           refine pure_ (i := 11) (N := some 57) (v := undef) (a' := ?_) #[true, true, true, true, true, true, true, true, true, true, true, true, false, false, false, false, false, false, false, false, false, false, false, false, false, false, false, false] rfl rfl (any_of HT_.out (by kernel_rfl)) (fun _ _ _ h => h) (Or.inr ⟨by rfl, rfl⟩) ?_ ?_
           rotate_left
           ·simp only [Act.put, List.setIfInBounds_toArray, List.set_cons_zero, List.set_cons_succ, i64_w, i32_w]
            rfl
           refine pure_ (i := 12) (N := some 58) (v := undef) (a' := ?_) #[true, true, true, true, true, true, true, true, true, true, true, true, true, false, false, false, false, false, false, false, false, false, false, false, false, false, false, false] rfl rfl (any_of HT_.out (by kernel_rfl)) (fun _ _ _ h => h) (Or.inr ⟨by rfl, rfl⟩) ?_ ?_
           rotate_left
           ·simp only [Act.put, List.setIfInBounds_toArray, List.set_cons_zero, List.set_cons_succ, i64_w, i32_w]
            rfl
           refine pure_ (i := 13) (N := some 59) (v := undef) (a' := ?_) #[true, true, true, true, true, true, true, true, true, true, true, true, true, true, false, false, false, false, false, false, false, false, false, false, false, false, false, false] rfl rfl (any_of HT_.out (by kernel_rfl)) (fun _ _ _ h => h) (Or.inr ⟨by rfl, rfl⟩) ?_ ?_
           rotate_left
           ·simp only [Act.put, List.setIfInBounds_toArray, List.set_cons_zero, List.set_cons_succ, i64_w, i32_w]
            rfl
           refine pure_ (i := 14) (N := some 60) (v := undef) (a' := ?_) #[true, true, true, true, true, true, true, true, true, true, true, true, true, true, true, false, false, false, false, false, false, false, false, false, false, false, false, false] rfl rfl (any_of HT_.out (by kernel_rfl)) (fun _ _ _ h => h) (Or.inr ⟨by rfl, rfl⟩) ?_ ?_
           rotate_left
           ·simp only [Act.put, List.setIfInBounds_toArray, List.set_cons_zero, List.set_cons_succ, i64_w, i32_w]
            rfl
           refine pure_ (i := 15) (N := some 61) (v := undef) (a' := ?_) #[true, true, true, true, true, true, true, true, true, true, true, true, true, true, true, true, false, false, false, false, false, false, false, false, false, false, false, false] rfl rfl (any_of HT_.out (by kernel_rfl)) (fun _ _ _ h => h) (Or.inr ⟨by rfl, rfl⟩) ?_ ?_
           rotate_left
           ·simp only [Act.put, List.setIfInBounds_toArray, List.set_cons_zero, List.set_cons_succ, i64_w, i32_w]
            rfl
           refine pr 16 62 HT_ ?_
           refine pr 17 63 HT_ ?_
           refine pure_ (i := 18) (N := some 64) (v := undef) (a' := ?_) #[true, true, true, true, true, true, true, true, true, true, true, true, true, true, true, true, true, true, true, false, false, false, false, false, false, false, false, false] rfl rfl (any_of HT_.out (by kernel_rfl)) (fun _ _ _ h => h) (Or.inr ⟨by rfl, rfl⟩) ?_ ?_
           rotate_left
           ·simp only [Act.put, List.setIfInBounds_toArray, List.set_cons_zero, List.set_cons_succ, i64_w, i32_w]
            rfl
           refine pure_ (i := 19) (N := some 65) (v := undef) (a' := ?_) #[true, true, true, true, true, true, true, true, true, true, true, true, true, true, true, true, true, true, true, true, false, false, false, false, false, false, false, false] rfl rfl (any_of HT_.out (by kernel_rfl)) (fun _ _ _ h => h) (Or.inr ⟨by rfl, rfl⟩) ?_ ?_
           rotate_left
           ·simp only [Act.put, List.setIfInBounds_toArray, List.set_cons_zero, List.set_cons_succ, i64_w, i32_w]
            rfl
           refine pure_ (i := 20) (N := some 66) (v := undef) (a' := ?_) #[true, true, true, true, true, true, true, true, true, true, true, true, true, true, true, true, true, true, true, true, true, false, false, false, false, false, false, false] rfl rfl (any_of HT_.out (by kernel_rfl)) (fun _ _ _ h => h) (Or.inr ⟨by rfl, rfl⟩) ?_ ?_
           rotate_left
           ·simp only [Act.put, List.setIfInBounds_toArray, List.set_cons_zero, List.set_cons_succ, i64_w, i32_w]
            rfl
           refine pure_ (i := 21) (N := some 67) (v := undef) (a' := ?_) #[true, true, true, true, true, true, true, true, true, true, true, true, true, true, true, true, true, true, true, true, true, true, false, false, false, false, false, false] rfl rfl (any_of HT_.out (by kernel_rfl)) (fun _ _ _ h => h) (Or.inr ⟨by rfl, rfl⟩) ?_ ?_
           rotate_left
           ·simp only [Act.put, List.setIfInBounds_toArray, List.set_cons_zero, List.set_cons_succ, i64_w, i32_w]
            rfl
           refine pure_ (i := 22) (N := some 68) (v := undef) (a' := ?_) #[true, true, true, true, true, true, true, true, true, true, true, true, true, true, true, true, true, true, true, true, true, true, true, false, false, false, false, false] rfl rfl (any_of HT_.out (by kernel_rfl)) (fun _ _ _ h => h) (Or.inr ⟨by rfl, rfl⟩) ?_ ?_
           rotate_left
           ·simp only [Act.put, List.setIfInBounds_toArray, List.set_cons_zero, List.set_cons_succ, i64_w, i32_w]
            rfl
           refine pure_ (i := 23) (N := some 69) (v := undef) (a' := ?_) #[true, true, true, true, true, true, true, true, true, true, true, true, true, true, true, true, true, true, true, true, true, true, true, true, false, false, false, false] rfl rfl (any_of HT_.out (by kernel_rfl)) (fun _ _ _ h => h) (Or.inr ⟨by rfl, rfl⟩) ?_ ?_
           rotate_left
           ·simp only [Act.put, List.setIfInBounds_toArray, List.set_cons_zero, List.set_cons_succ, i64_w, i32_w]
            rfl
           refine pure_ (i := 24) (N := some 70) (v := undef) (a' := ?_) #[true, true, true, true, true, true, true, true, true, true, true, true, true, true, true, true, true, true, true, true, true, true, true, true, true, false, false, false] rfl rfl (any_of HT_.out (by kernel_rfl)) (fun _ _ _ h => h) (Or.inr ⟨by rfl, rfl⟩) ?_ ?_
           rotate_left
           ·simp only [Act.put, List.setIfInBounds_toArray, List.set_cons_zero, List.set_cons_succ, i64_w, i32_w]
            rfl
           refine pure_ (i := 25) (N := some 71) (v := undef) (a' := ?_) #[true, true, true, true, true, true, true, true, true, true, true, true, true, true, true, true, true, true, true, true, true, true, true, true, true, true, false, false] rfl rfl (any_of HT_.out (by kernel_rfl)) (fun _ _ _ h => h) (Or.inr ⟨by rfl, rfl⟩) ?_ ?_
           rotate_left
           ·simp only [Act.put, List.setIfInBounds_toArray, List.set_cons_zero, List.set_cons_succ, i64_w, i32_w]
            rfl
           refine pure_ (i := 26) (N := some 72) (v := undef) (a' := ?_) #[true, true, true, true, true, true, true, true, true, true, true, true, true, true, true, true, true, true, true, true, true, true, true, true, true, true, true, false] rfl rfl (any_of HT_.out (by kernel_rfl)) (fun _ _ _ h => h) (Or.inr ⟨by rfl, rfl⟩) ?_ ?_
           rotate_left
           ·simp only [Act.put, List.setIfInBounds_toArray, List.set_cons_zero, List.set_cons_succ, i64_w, i32_w]
            rfl
           refine pr 27 73 HT_ ?_
           refine dn HT_ ?_
           try go_wp2
           go_meet
           case rel => exact ⟨_, (true), (by first | rfl | (simp; done) | (simp [*]; done)), H', ⟨by have := HK1.out; first | omega | exact Nat.le_refl _⟩, ⟨rl HO_10⟩, ⟨rl HO_11⟩, ⟨bk BK281⟩, ⟨bl HB⟩⟩
          ·rw [if_neg c23] at H
           have c23b0 : decide (((rd_T52 l2 x42_1).f1) ≤ ((rd_T52 l2 x42_1).f0)) = false := decide_eq_false c23
           clear c23
           by_cases c26 : ((rd_T52 l2 x42_1).f1) ≥ (t274.length : Int)
           ·rw [if_pos c26] at H
            have c26b0 : decide ((t274.length : Int) ≤ ((rd_T52 l2 x42_1).f1)) = true := decide_eq_true c26
            clear c26
            have H' := Aside0.mk H
            clear H
            try go_wp2
            have n0_ : Aside0 (Kd.R (Kd.int .u32) 86 ((w18.setCell ⟨gb281, 0, none⟩ (.int .i64 ((rd_T52 l2 x42_1).f0))).setCell ⟨gb281, 1, none⟩ (.int .i64 ((rd_T52 l2 x42_1).f1))) w.heap.size (fun _ => True) (.slice Ao12 t274.length co12) t274) := ⟨by (with_reducible repeat (first | apply Kd.R_alloc | apply Kd.R_drewN | apply Kd.R_drew)); exact Kd.R_mono (Kd.R_far (p := ⟨gb281, 1, none⟩) (Kd.R_far (p := ⟨gb281, 0, none⟩) (Kd.R_types HO_10.out BK281.out (by decide)) (fun _ hk => hk.2) (.int .i64 ((rd_T52 l2 x42_1).f0))) (fun _ hk => hk.2) (.int .i64 ((rd_T52 l2 x42_1).f1))) (fun _ hk => trivial)⟩
            have n1_ : Aside0 (Kd.R (Kd.int .i64) 3 ((w18.setCell ⟨gb281, 0, none⟩ (.int .i64 ((rd_T52 l2 x42_1).f0))).setCell ⟨gb281, 1, none⟩ (.int .i64 ((rd_T52 l2 x42_1).f1))) w.heap.size (fun _ => True) v278 x11_1) := ⟨by (with_reducible repeat (first | apply Kd.R_alloc | apply Kd.R_drewN | apply Kd.R_drew)); exact Kd.R_mono (Kd.R_far (p := ⟨gb281, 1, none⟩) (Kd.R_far (p := ⟨gb281, 0, none⟩) (Kd.R_types HO_11.out BK281.out (by decide)) (fun _ hk => hk.2) (.int .i64 ((rd_T52 l2 x42_1).f0))) (fun _ hk => hk.2) (.int .i64 ((rd_T52 l2 x42_1).f1))) (fun _ hk => trivial)⟩
            have n2_ : Aside0 (((w18.setCell ⟨gb281, 0, none⟩ (.int .i64 ((rd_T52 l2 x42_1).f0))).setCell ⟨gb281, 1, none⟩ (.int .i64 ((rd_T52 l2 x42_1).f1))).heap[gb281]? = some (.cells #[.int .i64 ((rd_T52 l2 x42_1).f0), .int .i64 ((rd_T52 l2 x42_1).f1)] 52 (0, 0))) := ⟨by (with_reducible repeat (first | refine blk_drewN ?_ _ | refine blk_drew ?_ | refine blk_alloc ?_ _)); refine blk_put (cs := #[.int .i64 ((rd_T52 l2 x42_1).f0), .int .i64 0]) ?_ 1 _ rfl; (with_reducible repeat (first | refine blk_drewN ?_ _ | refine blk_drew ?_ | refine blk_alloc ?_ _)); refine blk_put (cs := #[.int .i64 0, .int .i64 0]) ?_ 0 _ rfl; (with_reducible repeat (first | refine blk_drewN ?_ _ | refine blk_drew ?_ | refine blk_alloc ?_ _)); exact BK281.out⟩
            have n3_ : Aside0 (Below w.heap.size w ((w18.setCell ⟨gb281, 0, none⟩ (.int .i64 ((rd_T52 l2 x42_1).f0))).setCell ⟨gb281, 1, none⟩ (.int .i64 ((rd_T52 l2 x42_1).f1)))) := ⟨bl HB⟩
            (try clear HO_10)
            (try clear HO_11)
            (try clear BK281)
            (try clear HB)
            generalize ((w18.setCell ⟨gb281, 0, none⟩ (.int .i64 ((rd_T52 l2 x42_1).f0))).setCell ⟨gb281, 1, none⟩ (.int .i64 ((rd_T52 l2 x42_1).f1))) = w27 at n0_ n1_ n2_ n3_ ⊢
            have HO_10 := n0_; have HO_11 := n1_; have BK281 := n2_; have HB := n3_
            clear n0_ n1_ n2_ n3_
            have n0_ := Aside0.mk (Kd.R_drew HO_10.out)
            have n1_ := Aside0.mk (Kd.R_drew HO_11.out)
            have n2_ := Aside0.mk (blk_drew BK281.out)
            have n3_ := Aside0.mk (below_drew1 HB.out)
            clear HO_10 HO_11 BK281 HB
            have HO_10 := n0_; have HO_11 := n1_; have BK281 := n2_; have HB := n3_
            clear n0_ n1_ n2_ n3_
            refine start_ (n := 28) (S := fun w' => w'.cell? ⟨gb281, 0, none⟩ = some (.int .i64 ((rd_T52 l2 x42_1).f0)) ∧ w'.cell? ⟨gb281, 1, none⟩ = some (.int .i64 ((rd_T52 l2 x42_1).f1))) (ds := []) #[false, false, false, false, false, false, false, false, false, false, false, false, false, false, false, false, false, false, false, false, false, false, false, false, false, false, false, false] (by kernel_rfl) rfl rfl ⟨(blk_cell BK281.out 0).trans rfl, (blk_cell BK281.out 1).trans rfl⟩ (fun hHeld => ?_); refine with_tabW rib_IsTree.tab11 rib_IsTree.bits11 (fun HT_ HW_ => ?_)
            generalize w27.drew = w28 at HO_10 HO_11 BK281 HB hHeld ⊢
            refine pr 0 46 HT_ ?_
            refine tr 1 47 HT_ HW_ hHeld ?_
            refine pr 2 48 HT_ ?_
            refine pr 3 49 HT_ ?_
            refine pr 4 50 HT_ ?_
            refine pr 6 52 HT_ ?_
            refine tr 5 51 HT_ HW_ hHeld ?_
            refine tr 7 53 HT_ HW_ hHeld ?_
            refine pr 8 54 HT_ ?_
            refine pr 9 55 HT_ ?_
            refine pr 10 56 HT_ ?_
            refine pr 11 57 HT_ ?_
            refine pr 13 59 HT_ ?_
            refine pr 14 60 HT_ ?_
            refine tr 12 58 HT_ HW_ hHeld ?_
            refine pr 15 61 HT_ ?_
            refine pr 16 62 HT_ ?_
            refine pr 17 63 HT_ ?_
            refine pure_ (i := 18) (N := some 64) (v := undef) (a' := ?_) #[true, true, true, true, true, true, true, true, true, true, true, true, true, true, true, true, true, true, true, false, false, false, false, false, false, false, false, false] rfl rfl (any_of HT_.out (by kernel_rfl)) (fun _ _ _ h => h) (Or.inr ⟨by rfl, rfl⟩) ?_ ?_
            rotate_left
            ·simp only [Act.put, List.setIfInBounds_toArray, List.set_cons_zero, List.set_cons_succ, i64_w, i32_w]
             rfl
            refine pure_ (i := 19) (N := some 65) (v := undef) (a' := ?_) #[true, true, true, true, true, true, true, true, true, true, true, true, true, true, true, true, true, true, true, true, false, false, false, false, false, false, false, false] rfl rfl (any_of HT_.out (by kernel_rfl)) (fun _ _ _ h => h) (Or.inr ⟨by rfl, rfl⟩) ?_ ?_
            rotate_left
            ·simp only [Act.put, List.setIfInBounds_toArray, List.set_cons_zero, List.set_cons_succ, i64_w, i32_w]
             rfl
            refine pure_ (i := 20) (N := some 66) (v := undef) (a' := ?_) #[true, true, true, true, true, true, true, true, true, true, true, true, true, true, true, true, true, true, true, true, true, false, false, false, false, false, false, false] rfl rfl (any_of HT_.out (by kernel_rfl)) (fun _ _ _ h => h) (Or.inr ⟨by rfl, rfl⟩) ?_ ?_
            rotate_left
            ·simp only [Act.put, List.setIfInBounds_toArray, List.set_cons_zero, List.set_cons_succ, i64_w, i32_w]
             rfl
            refine pure_ (i := 21) (N := some 67) (v := undef) (a' := ?_) #[true, true, true, true, true, true, true, true, true, true, true, true, true, true, true, true, true, true, true, true, true, true, false, false, false, false, false, false] rfl rfl (any_of HT_.out (by kernel_rfl)) (fun _ _ _ h => h) (Or.inr ⟨by rfl, rfl⟩) ?_ ?_
            rotate_left
            ·simp only [Act.put, List.setIfInBounds_toArray, List.set_cons_zero, List.set_cons_succ, i64_w, i32_w]
             rfl
            refine pure_ (i := 22) (N := some 68) (v := undef) (a' := ?_) #[true, true, true, true, true, true, true, true, true, true, true, true, true, true, true, true, true, true, true, true, true, true, true, false, false, false, false, false] rfl rfl (any_of HT_.out (by kernel_rfl)) (fun _ _ _ h => h) (Or.inr ⟨by rfl, rfl⟩) ?_ ?_
            rotate_left
            ·simp only [Act.put, List.setIfInBounds_toArray, List.set_cons_zero, List.set_cons_succ, i64_w, i32_w]
             rfl
            refine pure_ (i := 23) (N := some 69) (v := undef) (a' := ?_) #[true, true, true, true, true, true, true, true, true, true, true, true, true, true, true, true, true, true, true, true, true, true, true, true, false, false, false, false] rfl rfl (any_of HT_.out (by kernel_rfl)) (fun _ _ _ h => h) (Or.inr ⟨by rfl, rfl⟩) ?_ ?_
            rotate_left
            ·simp only [Act.put, List.setIfInBounds_toArray, List.set_cons_zero, List.set_cons_succ, i64_w, i32_w]
             rfl
            refine pure_ (i := 24) (N := some 70) (v := undef) (a' := ?_) #[true, true, true, true, true, true, true, true, true, true, true, true, true, true, true, true, true, true, true, true, true, true, true, true, true, false, false, false] rfl rfl (any_of HT_.out (by kernel_rfl)) (fun _ _ _ h => h) (Or.inr ⟨by rfl, rfl⟩) ?_ ?_
            rotate_left
            ·simp only [Act.put, List.setIfInBounds_toArray, List.set_cons_zero, List.set_cons_succ, i64_w, i32_w]
             rfl
            refine pure_ (i := 25) (N := some 71) (v := undef) (a' := ?_) #[true, true, true, true, true, true, true, true, true, true, true, true, true, true, true, true, true, true, true, true, true, true, true, true, true, true, false, false] rfl rfl (any_of HT_.out (by kernel_rfl)) (fun _ _ _ h => h) (Or.inr ⟨by rfl, rfl⟩) ?_ ?_
            rotate_left
            ·simp only [Act.put, List.setIfInBounds_toArray, List.set_cons_zero, List.set_cons_succ, i64_w, i32_w]
             rfl
            refine pure_ (i := 26) (N := some 72) (v := undef) (a' := ?_) #[true, true, true, true, true, true, true, true, true, true, true, true, true, true, true, true, true, true, true, true, true, true, true, true, true, true, true, false] rfl rfl (any_of HT_.out (by kernel_rfl)) (fun _ _ _ h => h) (Or.inr ⟨by rfl, rfl⟩) ?_ ?_
            rotate_left
            ·simp only [Act.put, List.setIfInBounds_toArray, List.set_cons_zero, List.set_cons_succ, i64_w, i32_w]
             rfl
            refine pr 27 73 HT_ ?_
            refine dn HT_ ?_
            try go_wp2
            go_meet
            case rel => exact ⟨_, (true), (by first | rfl | (simp; done) | (simp [*]; done)), H', ⟨by have := HK1.out; first | omega | exact Nat.le_refl _⟩, ⟨rl HO_10⟩, ⟨rl HO_11⟩, ⟨bk BK281⟩, ⟨bl HB⟩⟩
           ·rw [if_neg c26] at H
            have c26b0 : decide ((t274.length : Int) ≤ ((rd_T52 l2 x42_1).f1)) = false := decide_eq_false c26
            clear c26
            replace H := Option.bind_eq_some_iff.mp H
            obtain ⟨t282, A290, H⟩ := H
            replace H : ((rib_find.f k1 x11_1 ((rd_T52 l2 x42_1).f1)).bind fun t283 => (rib_IsTree.j1 k1 a0 l2 t274 x11_1 l2 (l2.length : Int) x42_1 (t282 == t283) ((rd_T52 l2 x42_1).f0) ((rd_T52 l2 x42_1).f1))) = some (r1, r2) := H
            have A29 := Aside0.mk A290
            clear A290
            replace H := Option.bind_eq_some_iff.mp H
            obtain ⟨t283, A300, H⟩ := H
            replace H : (rib_IsTree.j1 k1 a0 l2 t274 x11_1 l2 (l2.length : Int) x42_1 (t282 == t283) ((rd_T52 l2 x42_1).f0) ((rd_T52 l2 x42_1).f1)) = some (r1, r2) := H
            have A30 := Aside0.mk A300
            clear A300
            have H' := Aside0.mk H
            clear H
            try go_wp2
            have n0_ : Aside0 (Kd.R (Kd.int .u32) 86 ((w18.setCell ⟨gb281, 0, none⟩ (.int .i64 ((rd_T52 l2 x42_1).f0))).setCell ⟨gb281, 1, none⟩ (.int .i64 ((rd_T52 l2 x42_1).f1))) w.heap.size (fun _ => True) (.slice Ao12 t274.length co12) t274) := ⟨by (with_reducible repeat (first | apply Kd.R_alloc | apply Kd.R_drewN | apply Kd.R_drew)); exact Kd.R_mono (Kd.R_far (p := ⟨gb281, 1, none⟩) (Kd.R_far (p := ⟨gb281, 0, none⟩) (Kd.R_types HO_10.out BK281.out (by decide)) (fun _ hk => hk.2) (.int .i64 ((rd_T52 l2 x42_1).f0))) (fun _ hk => hk.2) (.int .i64 ((rd_T52 l2 x42_1).f1))) (fun _ hk => trivial)⟩
            have n1_ : Aside0 (Kd.R (Kd.int .i64) 3 ((w18.setCell ⟨gb281, 0, none⟩ (.int .i64 ((rd_T52 l2 x42_1).f0))).setCell ⟨gb281, 1, none⟩ (.int .i64 ((rd_T52 l2 x42_1).f1))) w.heap.size (fun _ => True) v278 x11_1) := ⟨by (with_reducible repeat (first | apply Kd.R_alloc | apply Kd.R_drewN | apply Kd.R_drew)); exact Kd.R_mono (Kd.R_far (p := ⟨gb281, 1, none⟩) (Kd.R_far (p := ⟨gb281, 0, none⟩) (Kd.R_types HO_11.out BK281.out (by decide)) (fun _ hk => hk.2) (.int .i64 ((rd_T52 l2 x42_1).f0))) (fun _ hk => hk.2) (.int .i64 ((rd_T52 l2 x42_1).f1))) (fun _ hk => trivial)⟩
            have n2_ : Aside0 (((w18.setCell ⟨gb281, 0, none⟩ (.int .i64 ((rd_T52 l2 x42_1).f0))).setCell ⟨gb281, 1, none⟩ (.int .i64 ((rd_T52 l2 x42_1).f1))).heap[gb281]? = some (.cells #[.int .i64 ((rd_T52 l2 x42_1).f0), .int .i64 ((rd_T52 l2 x42_1).f1)] 52 (0, 0))) := ⟨by (with_reducible repeat (first | refine blk_drewN ?_ _ | refine blk_drew ?_ | refine blk_alloc ?_ _)); refine blk_put (cs := #[.int .i64 ((rd_T52 l2 x42_1).f0), .int .i64 0]) ?_ 1 _ rfl; (with_reducible repeat (first | refine blk_drewN ?_ _ | refine blk_drew ?_ | refine blk_alloc ?_ _)); refine blk_put (cs := #[.int .i64 0, .int .i64 0]) ?_ 0 _ rfl; (with_reducible repeat (first | refine blk_drewN ?_ _ | refine blk_drew ?_ | refine blk_alloc ?_ _)); exact BK281.out⟩
            have n3_ : Aside0 (Below w.heap.size w ((w18.setCell ⟨gb281, 0, none⟩ (.int .i64 ((rd_T52 l2 x42_1).f0))).setCell ⟨gb281, 1, none⟩ (.int .i64 ((rd_T52 l2 x42_1).f1)))) := ⟨bl HB⟩
            (try clear HO_10)
            (try clear HO_11)
            (try clear BK281)
            (try clear HB)
            generalize ((w18.setCell ⟨gb281, 0, none⟩ (.int .i64 ((rd_T52 l2 x42_1).f0))).setCell ⟨gb281, 1, none⟩ (.int .i64 ((rd_T52 l2 x42_1).f1))) = w31 at n0_ n1_ n2_ n3_ ⊢
            have HO_10 := n0_; have HO_11 := n1_; have BK281 := n2_; have HB := n3_
            clear n0_ n1_ n2_ n3_
            have n0_ := Aside0.mk (Kd.R_drew HO_10.out)
            have n1_ := Aside0.mk (Kd.R_drew HO_11.out)
            have n2_ := Aside0.mk (blk_drew BK281.out)
            have n3_ := Aside0.mk (below_drew1 HB.out)
            clear HO_10 HO_11 BK281 HB
            have HO_10 := n0_; have HO_11 := n1_; have BK281 := n2_; have HB := n3_
            clear n0_ n1_ n2_ n3_
            obtain ⟨Ao33, co33, eo33⟩ := Kd.R_slice HO_11.out
            (first | subst eo33 | (injection eo33 with f1_ f2_ f3_; have f4_ := f1_.symm; have f5_ := f3_.symm; clear f1_ f2_ f3_; subst f4_; subst f5_))
            refine start_ (n := 28) (S := fun w' => w'.cell? ⟨gb281, 0, none⟩ = some (.int .i64 ((rd_T52 l2 x42_1).f0)) ∧ w'.cell? ⟨gb281, 1, none⟩ = some (.int .i64 ((rd_T52 l2 x42_1).f1))) (ds := []) #[false, false, false, false, false, false, false, false, false, false, false, false, false, false, false, false, false, false, false, false, false, false, false, false, false, false, false, false] (by kernel_rfl) rfl rfl ⟨(blk_cell BK281.out 0).trans rfl, (blk_cell BK281.out 1).trans rfl⟩ (fun hHeld => ?_); refine with_tabW rib_IsTree.tab11 rib_IsTree.bits11 (fun HT_ HW_ => ?_)
            generalize w31.drew = w32 at HO_10 HO_11 BK281 HB hHeld ⊢
            refine pr 0 46 HT_ ?_
            refine tr 1 47 HT_ HW_ hHeld ?_
            refine pr 2 48 HT_ ?_
            refine pr 3 49 HT_ ?_
            refine pr 4 50 HT_ ?_
            refine pr 6 52 HT_ ?_
            refine tr 5 51 HT_ HW_ hHeld ?_
            refine tr 7 53 HT_ HW_ hHeld ?_
            refine pr 8 54 HT_ ?_
            refine pr 9 55 HT_ ?_
            refine pr 10 56 HT_ ?_
            refine pr 11 57 HT_ ?_
            refine pr 13 59 HT_ ?_
            refine pr 14 60 HT_ ?_
            refine tr 12 58 HT_ HW_ hHeld ?_
            refine pr 15 61 HT_ ?_
            refine pr 16 62 HT_ ?_
            refine pr 17 63 HT_ ?_
            refine pr 18 64 HT_ ?_
            refine pr 19 65 HT_ ?_
            refine pr 22 68 HT_ ?_
            refine pr 23 69 HT_ ?_
            refine tr 20 66 HT_ HW_ hHeld ?_
            refine tr 24 70 HT_ HW_ hHeld ?_
            refine on 21 (some 67) HT_ (fun K hK => ?_)
            refine gS Try.func59 #[.slice Ao33 x11_1.length co33, .int .i64 ((rd_T52 l2 x42_1).f0)] ?_
            with_reducible refine (rib_find.calls k1 _ _ x11_1 ((rd_T52 l2 x42_1).f0) t282 _ ?side1 ?side2 A29.out).mono ?_
            (case side1 => exact cl ((Kd.R_reads' HO_11.out).2.2))
            (case side2 => exact (Kd.R_reads' HO_11.out).2.1)
            rintro e w' ⟨rfl, ⟨nd, rfl⟩⟩
            refine ⟨_, rfl, ?_⟩
            refine hK.out _ _ ⟨(blk_cell BK281.out 0).trans rfl, (blk_cell BK281.out 1).trans rfl⟩ (fun hHeld => ?_)
            clear hK K
            refine nr (some 67) ?_
            refine on 25 (some 71) HT_ (fun K hK => ?_)
            refine gS Try.func59 #[.slice Ao33 x11_1.length co33, .int .i64 ((rd_T52 l2 x42_1).f1)] ?_
            with_reducible refine (rib_find.calls k1 _ _ x11_1 ((rd_T52 l2 x42_1).f1) t283 _ ?side1 ?side2 A30.out).mono ?_
            (case side1 => exact cl ((Kd.R_reads' HO_11.out).2.2))
            (case side2 => exact (Kd.R_reads' HO_11.out).2.1)
            rintro e w' ⟨rfl, ⟨nd, rfl⟩⟩
            refine ⟨_, rfl, ?_⟩
            refine hK.out _ _ ⟨(blk_cell BK281.out 0).trans rfl, (blk_cell BK281.out 1).trans rfl⟩ (fun hHeld => ?_)
            clear hK K
            refine nr (some 71) ?_
            refine pr 26 72 HT_ ?_
            refine pr 27 73 HT_ ?_
            refine dn HT_ ?_
            try go_wp2
            go_meet
            case rel => exact ⟨_, ((t282 == t283)), (by first | rfl | (simp; done) | (simp [*]; done)), H', ⟨by have := HK1.out; first | omega | exact Nat.le_refl _⟩, ⟨rl HO_10⟩, ⟨rl HO_11⟩, ⟨bk BK281⟩, ⟨bl HB⟩⟩
        case rest =>
         clear HC17
         try clear c2
         try clear p2
         try clear c5
         try clear c23
         try clear c23b0
         try clear c26
         try clear c26b0
         obtain ⟨kq, x73_16, rfl, HA, HJ16, HO_10, HO_11, BK281, HB⟩ := hcut
         cases kq with
         | zero => exact absurd HA.out (by simp [rib_IsTree.j1])
         | succ kj16 =>
          have H := HA.out
          clear HA
          simp only [rib_IsTree.j1] at H
          by_cases c34 : x73_16 = true
          ·subst c34
           have H1 : (some (false, 0)) = some (r1, r2) := by rw [if_pos rfl] at H; exact H
           clear H
           have H := H1
           clear H1
           simp only [Option.some.injEq, Prod.mk.injEq] at H
           obtain ⟨rfl, rfl⟩ := H
           go_wp2
           go_ret2
           exact ⟨by first | rfl | (simp [errW_none, errW_some] <;> rfl) | (simp [*, errW_none, errW_some] <;> rfl), by repeat (first | (with_reducible first | exact HB.out | apply below_alloc | apply pw_below_drewN | apply below_drew1 | refine below_set ?_ GE281.out) | exact HB.out)⟩
          ·replace c34 := Bool.eq_false_iff.mpr c34
           subst c34
           have H1 : ((rib_find.f kj16 x11_1 ((rd_T52 l2 x42_1).f0)).bind fun t284 => ((rib_find.f kj16 x11_1 ((rd_T52 l2 x42_1).f1)).bind fun t285 => (if 0 ≤ t284 then (if t284 < (x11_1.length : Int) then (rib_IsTree.l0 kj16 a0 l2 t274 (x11_1.set (t284 : Int).toNat t285) l2 (l2.length : Int) (wrap64 (x42_1 + 1))) else (none)) else (none)))) = some (r1, r2) := by rw [if_neg (show ¬ (false = true) by decide)] at H; exact H
           clear H
           have H := H1
           clear H1
           replace H := Option.bind_eq_some_iff.mp H
           obtain ⟨t284, A350, H⟩ := H
           replace H : ((rib_find.f kj16 x11_1 ((rd_T52 l2 x42_1).f1)).bind fun t285 => (if 0 ≤ t284 then (if t284 < (x11_1.length : Int) then (rib_IsTree.l0 kj16 a0 l2 t274 (x11_1.set (t284 : Int).toNat t285) l2 (l2.length : Int) (wrap64 (x42_1 + 1))) else (none)) else (none))) = some (r1, r2) := H
           have A35 := Aside0.mk A350
           clear A350
           replace H := Option.bind_eq_some_iff.mp H
           obtain ⟨t285, A360, H⟩ := H
           replace H : (if 0 ≤ t284 then (if t284 < (x11_1.length : Int) then (rib_IsTree.l0 kj16 a0 l2 t274 (x11_1.set (t284 : Int).toNat t285) l2 (l2.length : Int) (wrap64 (x42_1 + 1))) else (none)) else (none)) = some (r1, r2) := H
           have A36 := Aside0.mk A360
           clear A360
           by_cases c37 : 0 ≤ t284
           ·rw [if_pos c37] at H
            have c37b0 : decide (0 ≤ t284) = true := decide_eq_true c37
            clear c37
            by_cases c38 : t284 < (x11_1.length : Int)
            ·rw [if_pos c38] at H
             have c38b0 : decide (t284 < (x11_1.length : Int)) = true := decide_eq_true c38
             clear c38
             obtain ⟨y286, hy286⟩ : ∃ y_ : List Int, y_ = (x11_1.set (t284 : Int).toNat t285) := ⟨_, rfl⟩
             replace H : (rib_IsTree.l0 kj16 a0 l2 t274 y286 l2 (l2.length : Int) (wrap64 (x42_1 + 1))) = some (r1, r2) := by first | (rw [hy286]; with_reducible exact H) | (have H2_ := (Option.bind_some _ _).symm.trans H; rw [hy286]; with_reducible exact H2_) | (have H2_ := (Option.bind_some _ _).symm.trans H; with_reducible exact H2_) | with_reducible exact H | (rw [hy286]; exact H) | exact H
             have Ny286 := Aside0.mk hy286
             clear hy286
             have H' := Aside0.mk H
             clear H
             try go_wp2
             have n0_ := Aside0.mk (Kd.R_drew HO_10.out)
             have n1_ := Aside0.mk (Kd.R_drew HO_11.out)
             have n2_ := Aside0.mk (blk_drew BK281.out)
             have n3_ := Aside0.mk (below_drew1 HB.out)
             clear HO_10 HO_11 BK281 HB
             have HO_10 := n0_; have HO_11 := n1_; have BK281 := n2_; have HB := n3_
             clear n0_ n1_ n2_ n3_
             obtain ⟨Ao41, co41, eo41⟩ := Kd.R_slice HO_11.out
             (first | subst eo41 | (injection eo41 with f1_ f2_ f3_; have f4_ := f1_.symm; have f5_ := f3_.symm; clear f1_ f2_ f3_; subst f4_; subst f5_))
             refine start_ (n := 11) (S := fun w' => w'.cell? ⟨gb281, 0, none⟩ = some (.int .i64 ((rd_T52 l2 x42_1).f0)) ∧ w'.cell? ⟨gb281, 1, none⟩ = some (.int .i64 ((rd_T52 l2 x42_1).f1))) (ds := [10]) #[false, false, false, false, false, false, false, false, false, false, false] (by kernel_rfl) rfl rfl ⟨(blk_cell BK281.out 0).trans rfl, (blk_cell BK281.out 1).trans rfl⟩ (fun hHeld => ?_); refine with_tabW rib_IsTree.tab13 rib_IsTree.bits13 (fun HT_ HW_ => ?_)
             generalize wc.drew = w40 at HO_10 HO_11 BK281 HB hHeld ⊢
             refine pr 0 74 HT_ ?_
             refine pr 1 75 HT_ ?_
             refine pr 2 76 HT_ ?_
             refine pr 5 79 HT_ ?_
             refine pr 6 80 HT_ ?_
             refine tr 3 77 HT_ HW_ hHeld ?_
             refine tr 7 81 HT_ HW_ hHeld ?_
             refine on 4 (some 78) HT_ (fun K hK => ?_)
             refine gS Try.func59 #[.slice Ao41 x11_1.length co41, .int .i64 ((rd_T52 l2 x42_1).f0)] ?_
             with_reducible refine (rib_find.calls kj16 _ _ x11_1 ((rd_T52 l2 x42_1).f0) t284 _ ?side1 ?side2 A35.out).mono ?_
             (case side1 => exact cl ((Kd.R_reads' HO_11.out).2.2))
             (case side2 => exact (Kd.R_reads' HO_11.out).2.1)
             rintro e w' ⟨rfl, ⟨nd, rfl⟩⟩
             refine ⟨_, rfl, ?_⟩
             refine hK.out _ _ ⟨(blk_cell BK281.out 0).trans rfl, (blk_cell BK281.out 1).trans rfl⟩ (fun hHeld => ?_)
             clear hK K
             refine nr (some 78) ?_
             refine on 8 (some 82) HT_ (fun K hK => ?_)
             refine gS Try.func59 #[.slice Ao41 x11_1.length co41, .int .i64 ((rd_T52 l2 x42_1).f1)] ?_
             with_reducible refine (rib_find.calls kj16 _ _ x11_1 ((rd_T52 l2 x42_1).f1) t285 _ ?side1 ?side2 A36.out).mono ?_
             (case side1 => exact cl ((Kd.R_reads' HO_11.out).2.2))
             (case side2 => exact (Kd.R_reads' HO_11.out).2.1)
             rintro e w' ⟨rfl, ⟨nd, rfl⟩⟩
             refine ⟨_, rfl, ?_⟩
             have p39 : 0 ≤ (t284 : Int) := ofd
             have q39 : (t284 : Int) < ((x11_1.length : Int) : Int) := ofd
             obtain ⟨go39, co39, eo39, gb39, gl39, cl39, HG39⟩ := Kd.R_form HO_11.out (by omega)
             (first | cases eo39 | (injection eo39 with ea_ en_ ec_; (first | subst ea_ | (injection ea_ with ea_; subst ea_)); subst ec_; clear en_))
             have GB39 := Aside0.mk gb39
             have GG39 := Aside0.mk HG39
             clear gb39 gl39 HG39
             obtain ⟨hx39_0, hf39_0⟩ := Kd.R_celln 0 HO_11.out (t284 : Int) p39 q39
             replace p39 := eq_true p39
             replace q39 := eq_true q39
             have HP42 := Kd.R_putn HO_11.out (t284 : Int) t285
             rw [← Ny286.out] at HP42
             have HQ42 := Aside0.mk HP42
             clear HP42
             refine hK.out _ _ ⟨(blk_cell BK281.out 0).trans rfl, (blk_cell BK281.out 1).trans rfl⟩ (fun hHeld => ?_)
             clear hK K
             refine nr (some 82) ?_
             refine pr 9 83 HT_ ?_
             refine la 10 (none) HT_ (fun K hK => ?_)
             refine sk ?_
             refine hK.out _ _ ?_
             clear hK K
             refine dn HT_ ?_
             try go_wp2
             go_roundg kj16
             case measure => have := HK1.out; have := HJ16.out; omega
             case rel => exact ⟨(y286), (wrap64 (x42_1 + 1)), (by first | rfl | (simp; done) | (simp [*]; done)), H', ⟨by have := HK1.out; have := HJ16.out; omega⟩, ⟨by (with_reducible repeat (first | apply Kd.R_alloc | apply Kd.R_drewN | apply Kd.R_drew)); exact Kd.R_mono (Kd.R_far (p := ⟨go39, (t284 : Int).toNat, none⟩) (Kd.R_types HO_10.out GG39.out (by decide)) (fun _ hk => hk.2) (.int .i64 t285)) (fun _ hk => trivial)⟩, ⟨rl HQ42⟩, ⟨bl HB⟩⟩
            ·rw [if_neg c38] at H
             exact absurd H (by simp)
           ·rw [if_neg c37] at H
            exact absurd H (by simp)
       ·rw [if_neg c16] at H
        exact absurd H (by simp)
      ·rw [if_neg c15] at H
       exact absurd H (by simp)
     ·rw [if_neg c14] at H
      have c14b0 : decide (x42_1 < (l2.length : Int)) = false := decide_eq_false c14
      clear c14
      have H' := Aside0.mk H
      clear H
      go_wp2
      go_loopg [86] k1 (fun kq v86 w' => ∃ (x86_2 : Int), v86 = .int .i64 x86_2 ∧ Aside0 (rib_IsTree.l1 kq l2 t274 a0 x86_2 = some (r1, r2)) ∧ Aside0 (kq ≤ k1) ∧ Aside0 (Kd.R (Kd.int .u32) 86 w' w.heap.size (fun _ => True) (.slice Ao12 t274.length co12) t274) ∧ Aside0 (Below w.heap.size w w'))
      case atStart => exact ⟨(0), (by first | rfl | (simp; done) | (simp [*]; done)), H', ⟨Nat.le_refl _⟩, ⟨rl HO_10⟩, ⟨bl HB⟩⟩
      case round =>
       clear H'
       try clear c1
       try clear c2
       try clear p2
       try clear c3
       try clear p3
       try clear q3
       try clear hx3
       try clear hf3
       try clear c5
       try clear p6
       try clear c14
       try clear c14b0
       try clear c15
       try clear c16
       try clear c23
       try clear c23b0
       try clear c26
       try clear c26b0
       try clear c34
       try clear c37
       try clear c37b0
       try clear c38
       try clear c38b0
       try clear p39
       try clear q39
       try clear hx39
       try clear hf39
       try clear hx39_0
       try clear p2
       try clear p39
       try clear q39
       obtain ⟨x86_2, rfl, HA, HK2, HO_10, HB⟩ := hrel
       cases gk with
       | zero => exact absurd HA.out (by simp [rib_IsTree.l1])
       | succ k2 =>
        have H := HA.out
        clear HA
        simp only [rib_IsTree.l1] at H
        by_cases c43 : x86_2 < a0
        ·rw [if_pos c43] at H
         have c43b0 : decide (x86_2 < a0) = true := decide_eq_true c43
         clear c43
         have H' := Aside0.mk H
         clear H
         go_wp2
         go_loopg [15, 91] k2 (fun kq v15 v91 w' => ∃ (x15_3 : Int) (x91_3 : Int), v15 = .int .i64 x15_3 ∧ v91 = .int .i64 x91_3 ∧ Aside0 (rib_IsTree.l2 kq l2 t274 x86_2 x15_3 0 a0 x86_2 t274 (t274.length : Int) x91_3 = some (r1, r2)) ∧ Aside0 (kq ≤ k2) ∧ Aside0 (Kd.R (Kd.int .u32) 86 w' w.heap.size (fun _ => True) (.slice Ao12 t274.length co12) t274) ∧ Aside0 (Kd.R (Kd.int .u32) 86 w' w.heap.size (fun _ => True) (.slice Ao12 t274.length co12) t274) ∧ Aside0 (Below w.heap.size w w'))
         case atStart => exact ⟨(0), (0), (by first | rfl | (simp; done) | (simp [*]; done)), (by first | rfl | (simp; done) | (simp [*]; done)), H', ⟨Nat.le_refl _⟩, ⟨rl HO_10⟩, ⟨rl HO_10⟩, ⟨bl HB⟩⟩
         case round =>
          clear H'
          try clear c1
          try clear c2
          try clear p2
          try clear c3
          try clear p3
          try clear q3
          try clear hx3
          try clear hf3
          try clear c4
          try clear c5
          try clear p6
          try clear c14
          try clear c14b0
          try clear c15
          try clear c16
          try clear c23
          try clear c23b0
          try clear c26
          try clear c26b0
          try clear c34
          try clear c37
          try clear c37b0
          try clear c38
          try clear c38b0
          try clear p39
          try clear q39
          try clear hx39
          try clear hf39
          try clear c43
          try clear c43b0
          try clear hx39_0
          try clear p2
          try clear p3
          try clear p39
          try clear p6
          try clear q3
          try clear q39
          obtain ⟨x15_3, x91_3, rfl, rfl, HA, HK3, HO_10, HO_89, HB⟩ := hrel
          cases gk with
          | zero => exact absurd HA.out (by simp [rib_IsTree.l2])
          | succ k3 =>
           have H := HA.out
           clear HA
           simp only [rib_IsTree.l2] at H
           by_cases c44 : x91_3 < (t274.length : Int)
           ·rw [if_pos c44] at H
            have c44b0 : decide (x91_3 < (t274.length : Int)) = true := decide_eq_true c44
            clear c44
            by_cases c45 : 0 ≤ x91_3
            ·rw [if_pos c45] at H
             have c45b0 : decide (0 ≤ x91_3) = true := decide_eq_true c45
             clear c45
             by_cases c46 : x91_3 < (t274.length : Int)
             ·rw [if_pos c46] at H
              have c46b0 : decide (x91_3 < (t274.length : Int)) = true := decide_eq_true c46
              clear c46
              replace H := Option.bind_eq_some_iff.mp H
              obtain ⟨t288, A470, H⟩ := H
              replace H : (if t288 = true then (rib_IsTree.l2 k3 l2 t274 x86_2 (wrap64 (x15_3 + 1)) 0 a0 x86_2 t274 (t274.length : Int) (wrap64 (x91_3 + 1))) else (rib_IsTree.l2 k3 l2 t274 x86_2 x15_3 0 a0 x86_2 t274 (t274.length : Int) (wrap64 (x91_3 + 1)))) = some (r1, r2) := H
              have A47 := Aside0.mk A470
              clear A470
              by_cases c48 : t288 = true
              ·subst c48
               have H1 : (rib_IsTree.l2 k3 l2 t274 x86_2 (wrap64 (x15_3 + 1)) 0 a0 x86_2 t274 (t274.length : Int) (wrap64 (x91_3 + 1))) = some (r1, r2) := by rw [if_pos rfl] at H; exact H
               clear H
               have H := H1
               clear H1
               have H' := Aside0.mk H
               clear H
               have p287 : 0 ≤ (x91_3 : Int) := ofd
               have q287 : x91_3 < (t274.length : Int) := ofd
               obtain ⟨ad287, e287, hx287_0⟩ := Kd.at_int (Kd.R_reads' HO_89.out).2.2 x91_3 p287 q287
               cases e287
               replace p287 := eq_true p287
               replace q287 := eq_true q287
               go_wp2_with (first | ((with_reducible refine gate_callee (f := 60) rfl ?_); refine gL 97 Try.func60 #[.int .u32 (rd t274 x91_3), .int .i64 x86_2] ?_; (with_reducible refine (rib_set_has.calls (rd t274 x91_3) x86_2 true _ A47.out).mono ?_); rintro e w' ⟨rfl, ⟨nd, rfl⟩⟩; refine ⟨_, rfl, ?_⟩))
               go_roundg k3
               case measure => have := HK1.out; have := HK2.out; have := HK3.out; omega
               case rel => exact ⟨(wrap64 (x15_3 + 1)), (wrap64 (x91_3 + 1)), (by first | rfl | (simp; done) | (simp [*]; done)), (by first | rfl | (simp; done) | (simp [*]; done)), H', ⟨by have := HK1.out; have := HK2.out; have := HK3.out; omega⟩, ⟨rl HO_10⟩, ⟨rl HO_89⟩, ⟨bl HB⟩⟩
              ·replace c48 := Bool.eq_false_iff.mpr c48
               subst c48
               have H1 : (rib_IsTree.l2 k3 l2 t274 x86_2 x15_3 0 a0 x86_2 t274 (t274.length : Int) (wrap64 (x91_3 + 1))) = some (r1, r2) := by rw [if_neg (show ¬ (false = true) by decide)] at H; exact H
               clear H
               have H := H1
               clear H1
               have H' := Aside0.mk H
               clear H
               have p287 : 0 ≤ (x91_3 : Int) := ofd
               have q287 : x91_3 < (t274.length : Int) := ofd
               obtain ⟨ad287, e287, hx287_0⟩ := Kd.at_int (Kd.R_reads' HO_89.out).2.2 x91_3 p287 q287
               cases e287
               replace p287 := eq_true p287
               replace q287 := eq_true q287
               go_wp2_with (first | ((with_reducible refine gate_callee (f := 60) rfl ?_); refine gL 97 Try.func60 #[.int .u32 (rd t274 x91_3), .int .i64 x86_2] ?_; (with_reducible refine (rib_set_has.calls (rd t274 x91_3) x86_2 false _ A47.out).mono ?_); rintro e w' ⟨rfl, ⟨nd, rfl⟩⟩; refine ⟨_, rfl, ?_⟩))
               go_roundg k3
               case measure => have := HK1.out; have := HK2.out; have := HK3.out; omega
               case rel => exact ⟨(x15_3), (wrap64 (x91_3 + 1)), (by first | rfl | (simp; done) | (simp [*]; done)), (by first | rfl | (simp; done) | (simp [*]; done)), H', ⟨by have := HK1.out; have := HK2.out; have := HK3.out; omega⟩, ⟨rl HO_10⟩, ⟨rl HO_89⟩, ⟨bl HB⟩⟩
             ·rw [if_neg c46] at H
              exact absurd H (by simp)
            ·rw [if_neg c45] at H
             exact absurd H (by simp)
           ·rw [if_neg c44] at H
            have c44b0 : decide (x91_3 < (t274.length : Int)) = false := decide_eq_false c44
            clear c44
            have H' := Aside0.mk H
            clear H
            go_wp2
            go_loopg [16, 103] k3 (fun kq v16 v103 w' => ∃ (x16_4 : Int) (x103_4 : Int), v16 = .int .i64 x16_4 ∧ v103 = .int .i64 x103_4 ∧ Aside0 (rib_IsTree.l3 kq l2 t274 x86_2 x15_3 x16_4 a0 x86_2 l2 (l2.length : Int) x103_4 = some (r1, r2)) ∧ Aside0 (kq ≤ k3) ∧ Aside0 (Kd.R (Kd.int .u32) 86 w' w.heap.size (fun _ => True) (.slice Ao12 t274.length co12) t274) ∧ Aside0 (Below w.heap.size w w'))
            case atStart => exact ⟨(0), (0), (by first | rfl | (simp; done) | (simp [*]; done)), (by first | rfl | (simp; done) | (simp [*]; done)), H', ⟨Nat.le_refl _⟩, ⟨rl HO_10⟩, ⟨bl HB⟩⟩
            case round =>
             clear H'
             try clear c1
             try clear c2
             try clear p2
             try clear q2
             try clear hx2
             try clear c3
             try clear p3
             try clear q3
             try clear hx3
             try clear hf3
             try clear c4
             try clear c5
             try clear c6
             try clear p6
             try clear c14
             try clear c14b0
             try clear c15
             try clear c16
             try clear c23
             try clear c23b0
             try clear c26
             try clear c26b0
             try clear p28
             try clear q28
             try clear hx28
             try clear c34
             try clear c37
             try clear c37b0
             try clear c38
             try clear c38b0
             try clear p39
             try clear q39
             try clear hx39
             try clear hf39
             try clear c43
             try clear c43b0
             try clear c44
             try clear c44b0
             try clear c45
             try clear c45b0
             try clear c46
             try clear c46b0
             try clear c48
             try clear hx287_0
             try clear hx39_0
             try clear p2
             try clear p287
             try clear p3
             try clear p39
             try clear p6
             try clear q287
             try clear q3
             try clear q39
             obtain ⟨x16_4, x103_4, rfl, rfl, HA, HK4, HO_10, HB⟩ := hrel
             cases gk with
             | zero => exact absurd HA.out (by simp [rib_IsTree.l3])
             | succ k4 =>
              have H := HA.out
              clear HA
              simp only [rib_IsTree.l3] at H
              by_cases c49 : x103_4 < (l2.length : Int)
              ·rw [if_pos c49] at H
               have c49b0 : decide (x103_4 < (l2.length : Int)) = true := decide_eq_true c49
               clear c49
               by_cases c50 : 0 ≤ x103_4
               ·rw [if_pos c50] at H
                have c50b0 : decide (0 ≤ x103_4) = true := decide_eq_true c50
                clear c50
                by_cases c51 : x103_4 < (l2.length : Int)
                ·rw [if_pos c51] at H
                 have c51b0 : decide (x103_4 < (l2.length : Int)) = true := decide_eq_true c51
                 clear c51
                 by_cases c52 : 0 ≤ ((rd_T52 l2 x103_4).f0)
                 ·rw [if_pos c52] at H
                  have c52b0 : decide (0 ≤ ((rd_T52 l2 x103_4).f0)) = true := decide_eq_true c52
                  clear c52
                  by_cases c53 : ((rd_T52 l2 x103_4).f0) < (t274.length : Int)
                  ·rw [if_pos c53] at H
                   have c53b0 : decide (((rd_T52 l2 x103_4).f0) < (t274.length : Int)) = true := decide_eq_true c53
                   clear c53
                   by_cases c54 : 0 ≤ ((rd_T52 l2 x103_4).f1)
                   ·rw [if_pos c54] at H
                    have c54b0 : decide (0 ≤ ((rd_T52 l2 x103_4).f1)) = true := decide_eq_true c54
                    clear c54
                    by_cases c55 : ((rd_T52 l2 x103_4).f1) < (t274.length : Int)
                    ·rw [if_pos c55] at H
                     have c55b0 : decide (((rd_T52 l2 x103_4).f1) < (t274.length : Int)) = true := decide_eq_true c55
                     clear c55
                     replace H := Option.bind_eq_some_iff.mp H
                     obtain ⟨t293, A560, H⟩ := H
                     replace H : (if t293 = true then (rib_IsTree.l3 k4 l2 t274 x86_2 x15_3 (wrap64 (x16_4 + 1)) a0 x86_2 l2 (l2.length : Int) (wrap64 (x103_4 + 1))) else (rib_IsTree.l3 k4 l2 t274 x86_2 x15_3 x16_4 a0 x86_2 l2 (l2.length : Int) (wrap64 (x103_4 + 1)))) = some (r1, r2) := H
                     have A56 := Aside0.mk A560
                     clear A560
                     by_cases c57 : t293 = true
                     ·subst c57
                      have H1 : (rib_IsTree.l3 k4 l2 t274 x86_2 x15_3 (wrap64 (x16_4 + 1)) a0 x86_2 l2 (l2.length : Int) (wrap64 (x103_4 + 1))) = some (r1, r2) := by rw [if_pos rfl] at H; exact H
                      clear H
                      have H := H1
                      clear H1
                      have H' := Aside0.mk H
                      clear H
                      have p289 : 0 ≤ (x103_4 : Int) := ofd
                      have q289 : x103_4 < (l2.length : Int) := ofd
                      obtain ⟨ad289, e289, hx289_0, hx289_1⟩ := at_T52 HR2.out x103_4 p289 q289
                      cases e289
                      replace hx289_0 := (HB.out.cell (World.block_lt_of_cell? w _ hx289_0)).trans hx289_0
                      replace hx289_1 := (HB.out.cell (World.block_lt_of_cell? w _ hx289_1)).trans hx289_1
                      replace p289 := eq_true p289
                      replace q289 := eq_true q289
                      try go_wp2_with (first | ((with_reducible refine gate_dst (N := 20) rfl ?_); (try (refine gate_guard (by rfl) ?_; dsimp only)); refine box_event ?hg (N := 20) ?hd (cs := #[.int .i64 0, .int .i64 0]) (t := 52) ?hr ?_; (case hd => rfl); (case hg => rfl); (case hr => first | (go_simp; done) | (go_simp; rfl)); intro gb290 hg w58 hbox hb; have n0_ := Aside0.mk (Kd.R_below (rl HO_10) hb); have n1_ := Aside0.mk (below_step (bl HB) hb); have n2_ := Aside0.mk (hbox); have n3_ := Aside0.mk ((by rw [hg]; exact (below_size (bl HB)) : w.heap.size ≤ gb290)); have n4_ := Aside0.mk ((by rw [hg]; exact (below_size (bl HB)) : w.heap.size ≤ gb290)); clear HO_10; clear HB; have HO_10 := n0_; have HB := n1_; have BK290 := n2_; have GW290 := n3_; have GE290 := n4_; clear n0_ n1_ n2_ n3_ n4_; clear hb hbox hg; have hcz59_0 : w58.cell? ⟨gb290, 0, none⟩ = some (.int .i64 0) := (blk_cell BK290.out 0).trans rfl; have hcz59_1 : w58.cell? ⟨gb290, 1, none⟩ = some (.int .i64 0) := (blk_cell BK290.out 1).trans rfl; have hfz59_0 := blk_frozen BK290.out 0; have hfz59_1 := blk_frozen BK290.out 1))
                      have n0_ : Aside0 (Kd.R (Kd.int .u32) 86 ((w58.setCell ⟨gb290, 0, none⟩ (.int .i64 ((rd_T52 l2 x103_4).f0))).setCell ⟨gb290, 1, none⟩ (.int .i64 ((rd_T52 l2 x103_4).f1))) w.heap.size (fun _ => True) (.slice Ao12 t274.length co12) t274) := ⟨by (with_reducible repeat (first | apply Kd.R_alloc | apply Kd.R_drewN | apply Kd.R_drew)); exact Kd.R_mono (Kd.R_far (p := ⟨gb290, 1, none⟩) (Kd.R_far (p := ⟨gb290, 0, none⟩) (Kd.R_types HO_10.out BK290.out (by decide)) (fun _ hk => hk.2) (.int .i64 ((rd_T52 l2 x103_4).f0))) (fun _ hk => hk.2) (.int .i64 ((rd_T52 l2 x103_4).f1))) (fun _ hk => trivial)⟩
                      have n1_ : Aside0 (((w58.setCell ⟨gb290, 0, none⟩ (.int .i64 ((rd_T52 l2 x103_4).f0))).setCell ⟨gb290, 1, none⟩ (.int .i64 ((rd_T52 l2 x103_4).f1))).heap[gb290]? = some (.cells #[.int .i64 ((rd_T52 l2 x103_4).f0), .int .i64 ((rd_T52 l2 x103_4).f1)] 52 (0, 0))) := ⟨by (with_reducible repeat (first | refine blk_drewN ?_ _ | refine blk_drew ?_ | refine blk_alloc ?_ _)); refine blk_put (cs := #[.int .i64 ((rd_T52 l2 x103_4).f0), .int .i64 0]) ?_ 1 _ rfl; (with_reducible repeat (first | refine blk_drewN ?_ _ | refine blk_drew ?_ | refine blk_alloc ?_ _)); refine blk_put (cs := #[.int .i64 0, .int .i64 0]) ?_ 0 _ rfl; (with_reducible repeat (first | refine blk_drewN ?_ _ | refine blk_drew ?_ | refine blk_alloc ?_ _)); exact BK290.out⟩
                      have n2_ : Aside0 (Below w.heap.size w ((w58.setCell ⟨gb290, 0, none⟩ (.int .i64 ((rd_T52 l2 x103_4).f0))).setCell ⟨gb290, 1, none⟩ (.int .i64 ((rd_T52 l2 x103_4).f1)))) := ⟨bl HB⟩
                      (try clear HO_10)
                      (try clear BK290)
                      (try clear HB)
                      generalize ((w58.setCell ⟨gb290, 0, none⟩ (.int .i64 ((rd_T52 l2 x103_4).f0))).setCell ⟨gb290, 1, none⟩ (.int .i64 ((rd_T52 l2 x103_4).f1))) = w60 at n0_ n1_ n2_ ⊢
                      have HO_10 := n0_; have BK290 := n1_; have HB := n2_
                      clear n0_ n1_ n2_
                      have n0_ := Aside0.mk (Kd.R_drew HO_10.out)
                      have n1_ := Aside0.mk (blk_drew BK290.out)
                      have n2_ := Aside0.mk (below_drew1 HB.out)
                      clear HO_10 BK290 HB
                      have HO_10 := n0_; have BK290 := n1_; have HB := n2_
                      clear n0_ n1_ n2_
                      have p291 : 0 ≤ (((rd_T52 l2 x103_4).f0) : Int) := ofd
                      have q291 : ((rd_T52 l2 x103_4).f0) < (t274.length : Int) := ofd
                      obtain ⟨ad291, e291, hx291_0⟩ := Kd.at_int (Kd.R_reads' HO_10.out).2.2 ((rd_T52 l2 x103_4).f0) p291 q291
                      cases e291
                      replace p291 := eq_true p291
                      replace q291 := eq_true q291
                      have p292 : 0 ≤ (((rd_T52 l2 x103_4).f1) : Int) := ofd
                      have q292 : ((rd_T52 l2 x103_4).f1) < (t274.length : Int) := ofd
                      obtain ⟨ad292, e292, hx292_0⟩ := Kd.at_int (Kd.R_reads' HO_10.out).2.2 ((rd_T52 l2 x103_4).f1) p292 q292
                      obtain rfl : ad291 = ad292 := (by injection e292)
                      replace p292 := eq_true p292
                      replace q292 := eq_true q292
                      refine start_ (n := 13) (S := fun w' => w'.cell? ⟨gb290, 0, none⟩ = some (.int .i64 ((rd_T52 l2 x103_4).f0)) ∧ w'.cell? ⟨gb290, 1, none⟩ = some (.int .i64 ((rd_T52 l2 x103_4).f1)) ∧ w'.cell? (ad291.add (((rd_T52 l2 x103_4).f0)).toNat) = some (.int .u32 (rd t274 ((rd_T52 l2 x103_4).f0))) ∧ w'.cell? (ad291.add (((rd_T52 l2 x103_4).f1)).toNat) = some (.int .u32 (rd t274 ((rd_T52 l2 x103_4).f1)))) (ds := []) #[false, false, false, false, false, false, false, false, false, false, false, false, false] (by kernel_rfl) rfl rfl ⟨(blk_cell BK290.out 0).trans rfl, (blk_cell BK290.out 1).trans rfl, hx291_0, hx292_0⟩ (fun hHeld => ?_); refine with_tabW rib_IsTree.tab28 rib_IsTree.bits28 (fun HT_ HW_ => ?_)
                      generalize w60.drew = w61 at HO_10 BK290 HB hx291_0 hx292_0 hHeld ⊢
                      refine pr 0 107 HT_ ?_
                      refine pr 1 108 HT_ ?_
                      refine pr 5 112 HT_ ?_
                      refine pr 6 113 HT_ ?_
                      refine pr 11 118 HT_ ?_
                      refine tr 2 109 HT_ HW_ hHeld ?_
                      refine pr 3 110 HT_ ?_
                      refine tr 4 111 HT_ HW_ hHeld ?_
                      refine tr 7 114 HT_ HW_ hHeld ?_
                      refine pr 8 115 HT_ ?_
                      refine tr 9 116 HT_ HW_ hHeld ?_
                      refine pr 10 117 HT_ ?_
                      refine on 12 (some 119) HT_ (fun K hK => ?_)
                      refine gS Try.func60 #[.int .u32 (Go.bits .and .u32 (rd t274 ((rd_T52 l2 x103_4).f0)) (rd t274 ((rd_T52 l2 x103_4).f1))), .int .i64 x86_2] ?_
                      with_reducible refine (rib_set_has.calls (Go.bits .and .u32 (rd t274 ((rd_T52 l2 x103_4).f0)) (rd t274 ((rd_T52 l2 x103_4).f1))) x86_2 true _ A56.out).mono ?_
                      rintro e w' ⟨rfl, ⟨nd, rfl⟩⟩
                      refine ⟨_, rfl, ?_⟩
                      refine hK.out _ _ ⟨(blk_cell BK290.out 0).trans rfl, (blk_cell BK290.out 1).trans rfl, hHeld.2.2.1, hHeld.2.2.2⟩ (fun hHeld => ?_)
                      clear hK K
                      refine nr (some 119) ?_
                      refine dn HT_ ?_
                      try go_wp2
                      go_roundg k4
                      case measure => have := HK1.out; have := HK2.out; have := HK3.out; have := HK4.out; omega
                      case rel => exact ⟨(wrap64 (x16_4 + 1)), (wrap64 (x103_4 + 1)), (by first | rfl | (simp; done) | (simp [*]; done)), (by first | rfl | (simp; done) | (simp [*]; done)), H', ⟨by have := HK1.out; have := HK2.out; have := HK3.out; have := HK4.out; omega⟩, ⟨rl HO_10⟩, ⟨bl HB⟩⟩
                     ·replace c57 := Bool.eq_false_iff.mpr c57
                      subst c57
                      have H1 : (rib_IsTree.l3 k4 l2 t274 x86_2 x15_3 x16_4 a0 x86_2 l2 (l2.length : Int) (wrap64 (x103_4 + 1))) = some (r1, r2) := by rw [if_neg (show ¬ (false = true) by decide)] at H; exact H
                      clear H
                      have H := H1
                      clear H1
                      have H' := Aside0.mk H
                      clear H
                      have p289 : 0 ≤ (x103_4 : Int) := ofd
                      have q289 : x103_4 < (l2.length : Int) := ofd
                      obtain ⟨ad289, e289, hx289_0, hx289_1⟩ := at_T52 HR2.out x103_4 p289 q289
                      cases e289
                      replace hx289_0 := (HB.out.cell (World.block_lt_of_cell? w _ hx289_0)).trans hx289_0
                      replace hx289_1 := (HB.out.cell (World.block_lt_of_cell? w _ hx289_1)).trans hx289_1
                      replace p289 := eq_true p289
                      replace q289 := eq_true q289
                      try go_wp2_with (first | ((with_reducible refine gate_dst (N := 20) rfl ?_); (try (refine gate_guard (by rfl) ?_; dsimp only)); refine box_event ?hg (N := 20) ?hd (cs := #[.int .i64 0, .int .i64 0]) (t := 52) ?hr ?_; (case hd => rfl); (case hg => rfl); (case hr => first | (go_simp; done) | (go_simp; rfl)); intro gb290 hg w62 hbox hb; have n0_ := Aside0.mk (Kd.R_below (rl HO_10) hb); have n1_ := Aside0.mk (below_step (bl HB) hb); have n2_ := Aside0.mk (hbox); have n3_ := Aside0.mk ((by rw [hg]; exact (below_size (bl HB)) : w.heap.size ≤ gb290)); have n4_ := Aside0.mk ((by rw [hg]; exact (below_size (bl HB)) : w.heap.size ≤ gb290)); clear HO_10; clear HB; have HO_10 := n0_; have HB := n1_; have BK290 := n2_; have GW290 := n3_; have GE290 := n4_; clear n0_ n1_ n2_ n3_ n4_; clear hb hbox hg; have hcz63_0 : w62.cell? ⟨gb290, 0, none⟩ = some (.int .i64 0) := (blk_cell BK290.out 0).trans rfl; have hcz63_1 : w62.cell? ⟨gb290, 1, none⟩ = some (.int .i64 0) := (blk_cell BK290.out 1).trans rfl; have hfz63_0 := blk_frozen BK290.out 0; have hfz63_1 := blk_frozen BK290.out 1))
                      have n0_ : Aside0 (Kd.R (Kd.int .u32) 86 ((w62.setCell ⟨gb290, 0, none⟩ (.int .i64 ((rd_T52 l2 x103_4).f0))).setCell ⟨gb290, 1, none⟩ (.int .i64 ((rd_T52 l2 x103_4).f1))) w.heap.size (fun _ => True) (.slice Ao12 t274.length co12) t274) := ⟨by (with_reducible repeat (first | apply Kd.R_alloc | apply Kd.R_drewN | apply Kd.R_drew)); exact Kd.R_mono (Kd.R_far (p := ⟨gb290, 1, none⟩) (Kd.R_far (p := ⟨gb290, 0, none⟩) (Kd.R_types HO_10.out BK290.out (by decide)) (fun _ hk => hk.2) (.int .i64 ((rd_T52 l2 x103_4).f0))) (fun _ hk => hk.2) (.int .i64 ((rd_T52 l2 x103_4).f1))) (fun _ hk => trivial)⟩
                      have n1_ : Aside0 (((w62.setCell ⟨gb290, 0, none⟩ (.int .i64 ((rd_T52 l2 x103_4).f0))).setCell ⟨gb290, 1, none⟩ (.int .i64 ((rd_T52 l2 x103_4).f1))).heap[gb290]? = some (.cells #[.int .i64 ((rd_T52 l2 x103_4).f0), .int .i64 ((rd_T52 l2 x103_4).f1)] 52 (0, 0))) := ⟨by (with_reducible repeat (first | refine blk_drewN ?_ _ | refine blk_drew ?_ | refine blk_alloc ?_ _)); refine blk_put (cs := #[.int .i64 ((rd_T52 l2 x103_4).f0), .int .i64 0]) ?_ 1 _ rfl; (with_reducible repeat (first | refine blk_drewN ?_ _ | refine blk_drew ?_ | refine blk_alloc ?_ _)); refine blk_put (cs := #[.int .i64 0, .int .i64 0]) ?_ 0 _ rfl; (with_reducible repeat (first | refine blk_drewN ?_ _ | refine blk_drew ?_ | refine blk_alloc ?_ _)); exact BK290.out⟩
                      have n2_ : Aside0 (Below w.heap.size w ((w62.setCell ⟨gb290, 0, none⟩ (.int .i64 ((rd_T52 l2 x103_4).f0))).setCell ⟨gb290, 1, none⟩ (.int .i64 ((rd_T52 l2 x103_4).f1)))) := ⟨bl HB⟩
                      (try clear HO_10)
                      (try clear BK290)
                      (try clear HB)
                      generalize ((w62.setCell ⟨gb290, 0, none⟩ (.int .i64 ((rd_T52 l2 x103_4).f0))).setCell ⟨gb290, 1, none⟩ (.int .i64 ((rd_T52 l2 x103_4).f1))) = w64 at n0_ n1_ n2_ ⊢
                      have HO_10 := n0_; have BK290 := n1_; have HB := n2_
                      clear n0_ n1_ n2_
                      have n0_ := Aside0.mk (Kd.R_drew HO_10.out)
                      have n1_ := Aside0.mk (blk_drew BK290.out)
                      have n2_ := Aside0.mk (below_drew1 HB.out)
                      clear HO_10 BK290 HB
                      have HO_10 := n0_; have BK290 := n1_; have HB := n2_
                      clear n0_ n1_ n2_
                      have p291 : 0 ≤ (((rd_T52 l2 x103_4).f0) : Int) := ofd
                      have q291 : ((rd_T52 l2 x103_4).f0) < (t274.length : Int) := ofd
                      obtain ⟨ad291, e291, hx291_0⟩ := Kd.at_int (Kd.R_reads' HO_10.out).2.2 ((rd_T52 l2 x103_4).f0) p291 q291
                      cases e291
                      replace p291 := eq_true p291
                      replace q291 := eq_true q291
                      have p292 : 0 ≤ (((rd_T52 l2 x103_4).f1) : Int) := ofd
                      have q292 : ((rd_T52 l2 x103_4).f1) < (t274.length : Int) := ofd
                      obtain ⟨ad292, e292, hx292_0⟩ := Kd.at_int (Kd.R_reads' HO_10.out).2.2 ((rd_T52 l2 x103_4).f1) p292 q292
                      obtain rfl : ad291 = ad292 := (by injection e292)
                      replace p292 := eq_true p292
                      replace q292 := eq_true q292
                      refine start_ (n := 13) (S := fun w' => w'.cell? ⟨gb290, 0, none⟩ = some (.int .i64 ((rd_T52 l2 x103_4).f0)) ∧ w'.cell? ⟨gb290, 1, none⟩ = some (.int .i64 ((rd_T52 l2 x103_4).f1)) ∧ w'.cell? (ad291.add (((rd_T52 l2 x103_4).f0)).toNat) = some (.int .u32 (rd t274 ((rd_T52 l2 x103_4).f0))) ∧ w'.cell? (ad291.add (((rd_T52 l2 x103_4).f1)).toNat) = some (.int .u32 (rd t274 ((rd_T52 l2 x103_4).f1)))) (ds := []) #[false, false, false, false, false, false, false, false, false, false, false, false, false] (by kernel_rfl) rfl rfl ⟨(blk_cell BK290.out 0).trans rfl, (blk_cell BK290.out 1).trans rfl, hx291_0, hx292_0⟩ (fun hHeld => ?_); refine with_tabW rib_IsTree.tab28 rib_IsTree.bits28 (fun HT_ HW_ => ?_)
                      generalize w64.drew = w65 at HO_10 BK290 HB hx291_0 hx292_0 hHeld ⊢
                      refine pr 0 107 HT_ ?_
                      refine pr 1 108 HT_ ?_
                      refine pr 5 112 HT_ ?_
                      refine pr 6 113 HT_ ?_
                      refine pr 11 118 HT_ ?_
                      refine tr 2 109 HT_ HW_ hHeld ?_
                      refine pr 3 110 HT_ ?_
                      refine tr 4 111 HT_ HW_ hHeld ?_
                      refine tr 7 114 HT_ HW_ hHeld ?_
                      refine pr 8 115 HT_ ?_
                      refine tr 9 116 HT_ HW_ hHeld ?_
                      refine pr 10 117 HT_ ?_
                      refine on 12 (some 119) HT_ (fun K hK => ?_)
                      refine gS Try.func60 #[.int .u32 (Go.bits .and .u32 (rd t274 ((rd_T52 l2 x103_4).f0)) (rd t274 ((rd_T52 l2 x103_4).f1))), .int .i64 x86_2] ?_
                      with_reducible refine (rib_set_has.calls (Go.bits .and .u32 (rd t274 ((rd_T52 l2 x103_4).f0)) (rd t274 ((rd_T52 l2 x103_4).f1))) x86_2 false _ A56.out).mono ?_
                      rintro e w' ⟨rfl, ⟨nd, rfl⟩⟩
                      refine ⟨_, rfl, ?_⟩
                      refine hK.out _ _ ⟨(blk_cell BK290.out 0).trans rfl, (blk_cell BK290.out 1).trans rfl, hHeld.2.2.1, hHeld.2.2.2⟩ (fun hHeld => ?_)
                      clear hK K
                      refine nr (some 119) ?_
                      refine dn HT_ ?_
                      try go_wp2
                      go_roundg k4
                      case measure => have := HK1.out; have := HK2.out; have := HK3.out; have := HK4.out; omega
                      case rel => exact ⟨(x16_4), (wrap64 (x103_4 + 1)), (by first | rfl | (simp; done) | (simp [*]; done)), (by first | rfl | (simp; done) | (simp [*]; done)), H', ⟨by have := HK1.out; have := HK2.out; have := HK3.out; have := HK4.out; omega⟩, ⟨rl HO_10⟩, ⟨bl HB⟩⟩
                    ·rw [if_neg c55] at H
                     exact absurd H (by simp)
                   ·rw [if_neg c54] at H
                    exact absurd H (by simp)
                  ·rw [if_neg c53] at H
                   exact absurd H (by simp)
                 ·rw [if_neg c52] at H
                  exact absurd H (by simp)
                ·rw [if_neg c51] at H
                 exact absurd H (by simp)
               ·rw [if_neg c50] at H
                exact absurd H (by simp)
              ·rw [if_neg c49] at H
               have c49b0 : decide (x103_4 < (l2.length : Int)) = false := decide_eq_false c49
               clear c49
               by_cases c66 : x16_4 = (wrap64 (x15_3 - 1))
               ·rw [if_pos c66] at H
                have c66b0 : (x16_4 == (wrap64 (x15_3 - 1))) = true := beq_iff_eq.mpr c66
                have c66b1 : (x16_4 != (wrap64 (x15_3 - 1))) = false := bne_eq_false_iff_eq.mpr c66
                clear c66
                have H' := Aside0.mk H
                clear H
                go_wp2
                go_roundg k4
                case measure => have := HK1.out; have := HK2.out; have := HK3.out; have := HK4.out; omega
                case rel => exact ⟨(wrap64 (x86_2 + 1)), (by first | rfl | (simp; done) | (simp [*]; done)), H', ⟨by have := HK1.out; have := HK2.out; have := HK3.out; have := HK4.out; omega⟩, ⟨rl HO_10⟩, ⟨bl HB⟩⟩
               ·rw [if_neg c66] at H
                have c66b0 : (x16_4 == (wrap64 (x15_3 - 1))) = false := beq_eq_false_iff_ne.mpr c66
                have c66b1 : (x16_4 != (wrap64 (x15_3 - 1))) = true := bne_iff_ne.mpr c66
                simp only [Option.some.injEq, Prod.mk.injEq] at H
                obtain ⟨rfl, rfl⟩ := H
                go_wp2
                go_ret2
                exact ⟨by first | rfl | (simp [errW_none, errW_some] <;> rfl) | (simp [*, errW_none, errW_some] <;> rfl), by repeat (first | (with_reducible first | exact HB.out | apply below_alloc | apply pw_below_drewN | apply below_drew1) | exact HB.out)⟩
        ·rw [if_neg c43] at H
         have c43b0 : decide (x86_2 < a0) = false := decide_eq_false c43
         clear c43
         simp only [Option.some.injEq, Prod.mk.injEq] at H
         obtain ⟨rfl, rfl⟩ := H
         go_wp2
         go_ret2
         exact ⟨by first | rfl | (simp [errW_none, errW_some] <;> rfl) | (simp [*, errW_none, errW_some] <;> rfl), by repeat (first | (with_reducible first | exact HB.out | apply below_alloc | apply pw_below_drewN | apply below_drew1) | exact HB.out)⟩
  ·rw [if_neg c7] at H
   have c7b0 : ((l2.length : Int) == (wrap64 ((t274.length : Int) - 1))) = false := beq_eq_false_iff_ne.mpr c7
   have c7b1 : ((l2.length : Int) != (wrap64 ((t274.length : Int) - 1))) = true := bne_iff_ne.mpr c7
   simp only [Option.some.injEq, Prod.mk.injEq] at H
   obtain ⟨rfl, rfl⟩ := H
   go_enter Try.func21, Try.ntmps21
   go_wp2_with (first | ((with_reducible refine gate_callee (f := 52) rfl ?_); refine gL 24 Try.func52 #[.int .i64 a0, .slice A1 l1.length c1] ?_; (with_reducible refine (rib_read.calls k a0 _ _ l1 t270 true _ ?side1 ?side2 A4.out).mono ?_); (case side1 => exact cl (HR1.out)); (case side2 => exact HC1.out); rintro e w67 ⟨v272, rfl, ho0, hb⟩; refine ⟨_, rfl, ?_⟩; have n0_ := Aside0.mk (Kd.R_lower ho0 (below_size (bl HB))); have n1_ := Aside0.mk (below_step (bl HB) hb); clear HB; have HO273 := n0_; have HB := n1_; clear n0_ n1_; (try clear hb); (try clear hb2); (try clear hk); (try clear hi); (try clear ho0); obtain ⟨Ao68, co68, eo68⟩ := Kd.R_slice HO273.out; subst eo68) | ((with_reducible refine gate_callee (f := 54) rfl ?_); refine gL 30 Try.func54 #[.slice Ao68 t270.length co68] ?_; (with_reducible refine (rib_maximal.calls k _ _ t270 t274 _ ?side1 ?side2 A6.out).mono ?_); (case side1 => exact cl ((Kd.R_reads' HO273.out).2.2)); (case side2 => exact (Kd.R_reads' HO273.out).2.1); rintro e w69 ⟨v275, rfl, ho0, hb⟩; refine ⟨_, rfl, ?_⟩; have n0_ := Aside0.mk (Kd.R_elder' (rl HO273) (Kd.R_base ho0) hb); have n1_ := Aside0.mk (Kd.R_lower (Kd.R_new' ho0 (Kd.R_lt (rl HO273))) (below_size (bl HB))); have n2_ := Aside0.mk (below_step (bl HB) hb); clear HO273; clear HB; have HO273 := n0_; have HO276 := n1_; have HB := n2_; clear n0_ n1_ n2_; (try clear hb); (try clear hb2); (try clear hk); (try clear hi); (try clear ho0); obtain ⟨Ao70, co70, eo70⟩ := Kd.R_slice HO276.out; subst eo70))
   go_ret2
   exact ⟨by first | rfl | (simp [errW_none, errW_some] <;> rfl) | (simp [*, errW_none, errW_some] <;> rfl), by repeat (first | (with_reducible first | exact HB.out | apply below_alloc | apply pw_below_drewN | apply below_drew1) | exact HB.out)⟩
 ·replace c5 := Bool.eq_false_iff.mpr c5
  subst c5
  have H1 : (some (false, 1)) = some (r1, r2) := by rw [if_neg (show ¬ (false = true) by decide)] at H; exact H
  clear H
  have H := H1
  clear H1
  simp only [Option.some.injEq, Prod.mk.injEq] at H
  obtain ⟨rfl, rfl⟩ := H
  go_enter Try.func21, Try.ntmps21
  go_wp2_with (first | ((with_reducible refine gate_callee (f := 52) rfl ?_); refine gL 24 Try.func52 #[.int .i64 a0, .slice A1 l1.length c1] ?_; (with_reducible refine (rib_read.calls k a0 _ _ l1 t270 false _ ?side1 ?side2 A4.out).mono ?_); (case side1 => exact cl (HR1.out)); (case side2 => exact HC1.out); rintro e w71 ⟨v272, rfl, ho0, hb⟩; refine ⟨_, rfl, ?_⟩; have n0_ := Aside0.mk (Kd.R_lower ho0 (below_size (bl HB))); have n1_ := Aside0.mk (below_step (bl HB) hb); clear HB; have HO273 := n0_; have HB := n1_; clear n0_ n1_; (try clear hb); (try clear hb2); (try clear hk); (try clear hi); (try clear ho0)))
  go_ret2
  exact ⟨by first | rfl | (simp [errW_none, errW_some] <;> rfl) | (simp [*, errW_none, errW_some] <;> rfl), by repeat (first | (with_reducible first | exact HB.out | apply below_alloc | apply pw_below_drewN | apply below_drew1) | exact HB.out)⟩
end Go.Proofs.Ytdpolfflemocaaa.Rx

/- The declarations of Rex4 that the claim Qz needs. -/
import Derived.Test.YtdpolfflemocaaaQzTkP
import Derived.Test.YtdpolfflemocaaaQzRex0
namespace Go.Proofs.Ytdpolfflemocaaa.Re
open Go.RowKit Go.Proofs.Ytdpolfflemocaaa.Own Go.Proofs.Ytdpolfflemocaaa.Rx Go.Proofs.YtdpolfflemocaaaW.PrintWords Go.Proofs.YtdpolfflemocaaaW.PrintLast Go.Proofs.YtdpolfflemocaaaW.PrintMore
attribute [local go_sem] max2_int min2_int max_two min_two max_three min_three max_four min_four
set_option linter.unusedVariables false
set_option linter.unusedSimpArgs false
mutual
def rib_IsRing.l0 : Nat → List Int → List Int → Int → List Int → Int → Int → Option (Bool × Int)
  | 0, _, _, _, _, _, _ => none
  | k + 1, x2, x8, x10, x29, x30, x31 => if x31 < x30 then (if 0 ≤ x31 then (if x31 < (x29.length : Int) then ((rib_one.f (rd x29 x31)).bind fun t153 => (rib_IsRing.l0 k x2 x8 (Go.bits .or .u32 x10 t153) x29 x30 (wrap64 (x31 + 1)))) else (none)) else (none)) else (if (x2.length : Int) < 4 then (rib_IsRing.j1 k x2 x8 x10 (x2.length : Int) true) else ((rib_set_size.f x10).bind fun t154 => (rib_IsRing.j1 k x2 x8 x10 (x2.length : Int) (t154 != (x2.length : Int)))))
def rib_IsRing.j1 : Nat → List Int → List Int → Int → Int → Bool → Option (Bool × Int)
  | 0, _, _, _, _, _ => none
  | k + 1, x2, x8, x10, x13, x49 => if x49 = true then (some (false, 0)) else (rib_IsRing.l1 k x2 x8 x10 x13 x2 (x2.length : Int) 0)
def rib_IsRing.l1 : Nat → List Int → List Int → Int → Int → List Int → Int → Int → Option (Bool × Int)
  | 0, _, _, _, _, _, _, _ => none
  | k + 1, x2, x8, x10, x13, x50, x51, x52 => if x52 < x51 then (if 0 ≤ x52 then (if x52 < (x50.length : Int) then (if 0 ≤ (rd x50 x52) then (if (rd x50 x52) < (x8.length : Int) then (if x13 = 0 then (none) else (if 0 ≤ (Int.tmod (wrap64 (x52 + 1)) x13) then (if (Int.tmod (wrap64 (x52 + 1)) x13) < (x2.length : Int) then ((rib_one.f (rd x2 (Int.tmod (wrap64 (x52 + 1)) x13))).bind fun t158 => (if 0 ≤ (Int.tmod (wrap64 ((wrap64 (x52 + x13)) - 1)) x13) then (if (Int.tmod (wrap64 ((wrap64 (x52 + x13)) - 1)) x13) < (x2.length : Int) then ((rib_one.f (rd x2 (Int.tmod (wrap64 ((wrap64 (x52 + x13)) - 1)) x13))).bind fun t160 => (if (Go.bits .and .u32 (rd x8 (rd x50 x52)) x10) = (Go.bits .or .u32 t158 t160) then (rib_IsRing.l1 k x2 x8 x10 x13 x50 x51 (wrap64 (x52 + 1))) else (some (false, 0)))) else (none)) else (none))) else (none)) else (none))) else (none)) else (none)) else (none)) else (none)) else (some (true, 0))
end
def rib_IsRing.f (k : Nat) (a0 : Int) (l1 : List (S52)) (l2 : List Int) : Option (Bool × Int) := (rib_read.f k a0 l1).bind fun bt147 => (if bt147.2 = true then ((rib_out.f l2 a0).bind fun t151 => (if t151 = true then (some (false, 2)) else (rib_IsRing.l0 k l2 bt147.1 0 l2 (l2.length : Int) 0))) else (some (false, 1)))
set_option maxHeartbeats 8000000 in
set_option maxRecDepth 100000 in
theorem rib_IsRing.calls (k : Nat) (a0 : Int) (A1 : Option Addr) (c1 : Nat) (l1 : List (S52)) (A2 : Option Addr) (c2 : Nat) (l2 : List Int) (r1 : Bool) (r2 : Int) (w : World) (hr1 : Kd.C k52 w A1 l1.length l1) (hc1 : l1.length ≤ c1) (hr2 : Kd.C (Kd.int .i64) w A2 l2.length l2) (hc2 : l2.length ≤ c2) (h : rib_IsRing.f k a0 l1 l2 = some (r1, r2)) :
  Calls Try.prog 32 #[.int .i64 a0, .slice A1 l1.length c1, .slice A2 l2.length c2] w fun e w' => e = .returned (.tuple #[.bool r1, .int .i64 r2]) ∧ Below w.heap.size w w' := by
 have HR1 := Aside0.mk hr1
 have HC1 := Aside0.mk hc1
 clear hr1 hc1
 have HR2 := Aside0.mk hr2
 have HC2 := Aside0.mk hc2
 clear hr2 hc2
 have HB := Aside0.mk (Below.refl w.heap.size w)
 have H : ((rib_read.f k a0 l1).bind fun bt147 => (if bt147.2 = true then ((rib_out.f l2 a0).bind fun t151 => (if t151 = true then (some (false, 2)) else (rib_IsRing.l0 k l2 bt147.1 0 l2 (l2.length : Int) 0))) else (some (false, 1)))) = some (r1, r2) := h
 clear h
 replace H := Option.bind_eq_some_iff.mp H
 obtain ⟨⟨t147, t148⟩, A40, H⟩ := H
 replace H : (if t148 = true then ((rib_out.f l2 a0).bind fun t151 => (if t151 = true then (some (false, 2)) else (rib_IsRing.l0 k l2 t147 0 l2 (l2.length : Int) 0))) else (some (false, 1))) = some (r1, r2) := H
 have A4 := Aside0.mk A40
 clear A40
 by_cases c5 : t148 = true
 ·subst c5
  have H1 : ((rib_out.f l2 a0).bind fun t151 => (if t151 = true then (some (false, 2)) else (rib_IsRing.l0 k l2 t147 0 l2 (l2.length : Int) 0))) = some (r1, r2) := by rw [if_pos rfl] at H; exact H
  clear H
  have H := H1
  clear H1
  replace H := Option.bind_eq_some_iff.mp H
  obtain ⟨t151, A60, H⟩ := H
  replace H : (if t151 = true then (some (false, 2)) else (rib_IsRing.l0 k l2 t147 0 l2 (l2.length : Int) 0)) = some (r1, r2) := H
  have A6 := Aside0.mk A60
  clear A60
  by_cases c7 : t151 = true
  ·subst c7
   have H1 : (some (false, 2)) = some (r1, r2) := by rw [if_pos rfl] at H; exact H
   clear H
   have H := H1
   clear H1
   simp only [Option.some.injEq, Prod.mk.injEq] at H
   obtain ⟨rfl, rfl⟩ := H
   go_enter Try.func32, Try.ntmps32
   go_wp2_with (first | (go_at_call 52; (with_reducible refine (rib_read.calls k a0 _ _ l1 t147 true _ ?side1 ?side2 A4.out).mono ?_); (case side1 => exact cl (HR1.out)); (case side2 => exact HC1.out); rintro e w8 ⟨v149, rfl, ho0, hb⟩; have hx_ := (hb.cell (p := ⟨w.heap.size, 0, none⟩) (by simp)).trans (show _ = some (Value.int .i64 a0) by go_simp); have HX := Aside0.mk hx_; have hz_ := hb.size; have HZ := Aside0.mk (show w.heap.size < w8.heap.size by simp at hz_; omega); clear hx_ hz_; have n0_ := Aside0.mk (Kd.R_lower ho0 (below_size (bl HB))); have n1_ := Aside0.mk (below_step (bl HB) hb); clear HB; have HO150 := n0_; have HB := n1_; clear n0_ n1_; (try clear hb); (try clear hb2); (try clear hk); (try clear hi); (try clear ho0)) | (go_at_call 68; (with_reducible refine (rib_out.call2 a0 w.heap.size _ _ l2 true _ (Kd.C_below HR2.out HB.out) HZ.out HX.out A6.out).mono ?_); rintro e w' ⟨rfl, ⟨nd, rfl⟩⟩; (try first | exact ⟨rfl, _, World.drewN_drewN _ _ _⟩ | exact ⟨rfl, _, Eq.trans (World.drewN_drewN _ _ _) (congrArg (World.drewN _) (Nat.add_assoc _ _ _))⟩)))
   go_ret2
   exact ⟨by first | rfl | (simp [errW_none, errW_some] <;> rfl) | (simp [*, errW_none, errW_some] <;> rfl), by repeat (first | (with_reducible first | exact HB.out | apply below_alloc | apply pw_below_drewN | apply below_drew1) | exact HB.out)⟩
  ·replace c7 := Bool.eq_false_iff.mpr c7
   subst c7
   have H1 : (rib_IsRing.l0 k l2 t147 0 l2 (l2.length : Int) 0) = some (r1, r2) := by rw [if_neg (show ¬ (false = true) by decide)] at H; exact H
   clear H
   have H := H1
   clear H1
   have H' := Aside0.mk H
   clear H
   go_enter Try.func32, Try.ntmps32
   go_wp2_with (first | (go_at_call 52; (with_reducible refine (rib_read.calls k a0 _ _ l1 t147 true _ ?side1 ?side2 A4.out).mono ?_); (case side1 => exact cl (HR1.out)); (case side2 => exact HC1.out); rintro e w9 ⟨v149, rfl, ho0, hb⟩; have hx_ := (hb.cell (p := ⟨w.heap.size, 0, none⟩) (by simp)).trans (show _ = some (Value.int .i64 a0) by go_simp); have HX := Aside0.mk hx_; have hz_ := hb.size; have HZ := Aside0.mk (show w.heap.size < w9.heap.size by simp at hz_; omega); clear hx_ hz_; have n0_ := Aside0.mk (Kd.R_lower ho0 (below_size (bl HB))); have n1_ := Aside0.mk (below_step (bl HB) hb); clear HB; have HO150 := n0_; have HB := n1_; clear n0_ n1_; (try clear hb); (try clear hb2); (try clear hk); (try clear hi); (try clear ho0)) | (go_at_call 68; (with_reducible refine (rib_out.call2 a0 w.heap.size _ _ l2 false _ (Kd.C_below HR2.out HB.out) HZ.out HX.out A6.out).mono ?_); rintro e w' ⟨rfl, ⟨nd, rfl⟩⟩; (try first | exact ⟨rfl, _, World.drewN_drewN _ _ _⟩ | exact ⟨rfl, _, Eq.trans (World.drewN_drewN _ _ _) (congrArg (World.drewN _) (Nat.add_assoc _ _ _))⟩)))
   go_loopg [10, 31] k (fun kq v10 v31 w' => ∃ (x10_1 : Int) (x31_1 : Int), v10 = .int .u32 x10_1 ∧ v31 = .int .i64 x31_1 ∧ Aside0 (rib_IsRing.l0 kq l2 t147 x10_1 l2 (l2.length : Int) x31_1 = some (r1, r2)) ∧ Aside0 (kq ≤ k) ∧ Aside0 (Kd.R (Kd.int .u32) 86 w' w.heap.size (fun _ => True) v149 t147) ∧ Aside0 (Below w.heap.size w w'))
   case atStart => exact ⟨(0), (0), (by first | rfl | (simp; done) | (simp [*]; done)), (by first | rfl | (simp; done) | (simp [*]; done)), H', ⟨Nat.le_refl _⟩, ⟨rl HO150⟩, ⟨bl HB⟩⟩
   case round =>
    clear H'
    try clear c1
    try clear c2
    try clear p2
    try clear c3
    try clear c5
    try clear c7
    obtain ⟨x10_1, x31_1, rfl, rfl, HA, HK1, HO_8, HB⟩ := hrel
    cases gk with
    | zero => exact absurd HA.out (by simp [rib_IsRing.l0])
    | succ k1 =>
     have H := HA.out
     clear HA
     simp only [rib_IsRing.l0] at H
     by_cases c10 : x31_1 < (l2.length : Int)
     ·rw [if_pos c10] at H
      have c10b0 : decide (x31_1 < (l2.length : Int)) = true := decide_eq_true c10
      clear c10
      by_cases c11 : 0 ≤ x31_1
      ·rw [if_pos c11] at H
       have c11b0 : decide (0 ≤ x31_1) = true := decide_eq_true c11
       clear c11
       by_cases c12 : x31_1 < (l2.length : Int)
       ·rw [if_pos c12] at H
        have c12b0 : decide (x31_1 < (l2.length : Int)) = true := decide_eq_true c12
        clear c12
        replace H := Option.bind_eq_some_iff.mp H
        obtain ⟨t153, A130, H⟩ := H
        replace H : (rib_IsRing.l0 k1 l2 t147 (Go.bits .or .u32 x10_1 t153) l2 (l2.length : Int) (wrap64 (x31_1 + 1))) = some (r1, r2) := H
        have A13 := Aside0.mk A130
        clear A130
        have H' := Aside0.mk H
        clear H
        have p152 : 0 ≤ (x31_1 : Int) := ofd
        have q152 : x31_1 < (l2.length : Int) := ofd
        obtain ⟨ad152, e152, hx152_0⟩ := Kd.at_int HR2.out x31_1 p152 q152
        cases e152
        replace hx152_0 := (HB.out.cell (World.block_lt_of_cell? w _ hx152_0)).trans hx152_0
        replace p152 := eq_true p152
        replace q152 := eq_true q152
        go_wp2_with (first | (go_at_call 67; (with_reducible refine (rib_one.calls (rd l2 x31_1) t153 _ A13.out).mono ?_); rintro e w' ⟨rfl, ⟨nd, rfl⟩⟩; (try first | exact ⟨rfl, _, World.drewN_drewN _ _ _⟩ | exact ⟨rfl, _, Eq.trans (World.drewN_drewN _ _ _) (congrArg (World.drewN _) (Nat.add_assoc _ _ _))⟩)))
        repeat (go_quiet (first | (go_at_call 67; (with_reducible refine (rib_one.calls (rd l2 x31_1) t153 _ A13.out).mono ?_); rintro e w' ⟨rfl, ⟨nd, rfl⟩⟩; (try first | exact ⟨rfl, _, World.drewN_drewN _ _ _⟩ | exact ⟨rfl, _, Eq.trans (World.drewN_drewN _ _ _) (congrArg (World.drewN _) (Nat.add_assoc _ _ _))⟩))); try go_wp2_with (first | (go_at_call 67; (with_reducible refine (rib_one.calls (rd l2 x31_1) t153 _ A13.out).mono ?_); rintro e w' ⟨rfl, ⟨nd, rfl⟩⟩; (try first | exact ⟨rfl, _, World.drewN_drewN _ _ _⟩ | exact ⟨rfl, _, Eq.trans (World.drewN_drewN _ _ _) (congrArg (World.drewN _) (Nat.add_assoc _ _ _))⟩))))
        go_roundg k1
        case measure => have := HK1.out; omega
        case rel => exact ⟨(Go.bits .or .u32 x10_1 t153), (wrap64 (x31_1 + 1)), (by first | rfl | (simp; done) | (simp [*]; done)), (by first | rfl | (simp; done) | (simp [*]; done)), H', ⟨by have := HK1.out; omega⟩, ⟨rl HO_8⟩, ⟨bl HB⟩⟩
       ·rw [if_neg c12] at H
        exact absurd H (by simp)
      ·rw [if_neg c11] at H
       exact absurd H (by simp)
     ·rw [if_neg c10] at H
      have c10b0 : decide (x31_1 < (l2.length : Int)) = false := decide_eq_false c10
      clear c10
      have HC14 := Aside0.mk H
      clear H
      go_upto_region 13 with (fail)
      repeat (go_quiet (fail); go_upto_region 13 with (fail))
      go_cut [49] (fun v49 wc => ∃ (kq : Nat) (x49_13 : Bool), v49 = .bool x49_13 ∧ Aside0 (rib_IsRing.j1 kq l2 t147 x10_1 (l2.length : Int) x49_13 = some (r1, r2)) ∧ Aside0 (kq ≤ k1) ∧ Aside0 (Kd.R (Kd.int .u32) 86 wc w.heap.size (fun _ => True) v149 t147) ∧ Aside0 (Below w.heap.size w wc))
      case first =>
       have H := HC14.out
       clear HC14
       by_cases c15 : (l2.length : Int) < 4
       ·rw [if_pos c15] at H
        have c15b0 : decide ((l2.length : Int) < 4) = true := decide_eq_true c15
        have c15b1 : decide (l2.length < 4) = true := decide_eq_true (by omega)
        clear c15
        (first | rw [c15b0] | (simp only [i64_w, i32_w]; rw [c15b0]) | skip)
        have H' := Aside0.mk H
        clear H
        go_wp2
        repeat (go_quiet (fail); try go_wp2)
        go_meet
        case rel => exact ⟨_, (true), (by first | rfl | (simp; done) | (simp [*]; done)), H', ⟨by have := HK1.out; first | omega | exact Nat.le_refl _⟩, ⟨rl HO_8⟩, ⟨bl HB⟩⟩
       ·rw [if_neg c15] at H
        have c15b0 : decide ((l2.length : Int) < 4) = false := decide_eq_false c15
        have c15b1 : decide (l2.length < 4) = false := decide_eq_false (by omega)
        clear c15
        (first | rw [c15b0] | (simp only [i64_w, i32_w]; rw [c15b0]) | skip)
        replace H := Option.bind_eq_some_iff.mp H
        obtain ⟨t154, A160, H⟩ := H
        replace H : (rib_IsRing.j1 k1 l2 t147 x10_1 (l2.length : Int) (t154 != (l2.length : Int))) = some (r1, r2) := H
        have A16 := Aside0.mk A160
        clear A160
        have H' := Aside0.mk H
        clear H
        go_wp2_with (first | (go_at_call 70; (with_reducible refine (rib_set_size.calls x10_1 t154 _ A16.out).mono ?_); rintro e w' ⟨rfl, ⟨nd, rfl⟩⟩; (try first | exact ⟨rfl, _, World.drewN_drewN _ _ _⟩ | exact ⟨rfl, _, Eq.trans (World.drewN_drewN _ _ _) (congrArg (World.drewN _) (Nat.add_assoc _ _ _))⟩)))
        repeat (go_quiet (first | (go_at_call 70; (with_reducible refine (rib_set_size.calls x10_1 t154 _ A16.out).mono ?_); rintro e w' ⟨rfl, ⟨nd, rfl⟩⟩; (try first | exact ⟨rfl, _, World.drewN_drewN _ _ _⟩ | exact ⟨rfl, _, Eq.trans (World.drewN_drewN _ _ _) (congrArg (World.drewN _) (Nat.add_assoc _ _ _))⟩))); try go_wp2_with (first | (go_at_call 70; (with_reducible refine (rib_set_size.calls x10_1 t154 _ A16.out).mono ?_); rintro e w' ⟨rfl, ⟨nd, rfl⟩⟩; (try first | exact ⟨rfl, _, World.drewN_drewN _ _ _⟩ | exact ⟨rfl, _, Eq.trans (World.drewN_drewN _ _ _) (congrArg (World.drewN _) (Nat.add_assoc _ _ _))⟩))))
        go_meet
        case rel => exact ⟨_, ((t154 != (l2.length : Int))), (by first | rfl | (simp; done) | (simp [*]; done)), H', ⟨by have := HK1.out; first | omega | exact Nat.le_refl _⟩, ⟨rl HO_8⟩, ⟨bl HB⟩⟩
      case rest =>
       clear HC14
       try clear c1
       try clear p1
       try clear q1
       try clear hx1
       try clear c2
       try clear p2
       try clear c3
       try clear c5
       try clear p6
       try clear c7
       try clear c10
       try clear c10b0
       try clear c11
       try clear c11b0
       try clear c12
       try clear c12b0
       try clear c15
       try clear c15b0
       try clear c15b1
       try clear p15
       try clear q15
       try clear hx15
       try clear hx152_0
       try clear p152
       try clear p2
       try clear q152
       obtain ⟨kq, x49_13, rfl, HA, HJ13, HO_8, HB⟩ := hcut
       cases kq with
       | zero => exact absurd HA.out (by simp [rib_IsRing.j1])
       | succ kj13 =>
        have H := HA.out
        clear HA
        simp only [rib_IsRing.j1] at H
        by_cases c17 : x49_13 = true
        ·subst c17
         have H1 : (some (false, 0)) = some (r1, r2) := by rw [if_pos rfl] at H; exact H
         clear H
         have H := H1
         clear H1
         simp only [Option.some.injEq, Prod.mk.injEq] at H
         obtain ⟨rfl, rfl⟩ := H
         go_wp2
         repeat (go_quiet (fail); try go_wp2)
         go_ret2
         exact ⟨by first | rfl | (simp [errW_none, errW_some] <;> rfl) | (simp [*, errW_none, errW_some] <;> rfl), by repeat (first | (with_reducible first | exact HB.out | apply below_alloc | apply pw_below_drewN | apply below_drew1) | exact HB.out)⟩
        ·replace c17 := Bool.eq_false_iff.mpr c17
         subst c17
         have H1 : (rib_IsRing.l1 kj13 l2 t147 x10_1 (l2.length : Int) l2 (l2.length : Int) 0) = some (r1, r2) := by rw [if_neg (show ¬ (false = true) by decide)] at H; exact H
         clear H
         have H := H1
         clear H1
         have H' := Aside0.mk H
         clear H
         go_wp2
         repeat (go_quiet (fail); try go_wp2)
         go_loopg [52] kj13 (fun kq v52 w' => ∃ (x52_3 : Int), v52 = .int .i64 x52_3 ∧ Aside0 (rib_IsRing.l1 kq l2 t147 x10_1 (l2.length : Int) l2 (l2.length : Int) x52_3 = some (r1, r2)) ∧ Aside0 (kq ≤ kj13) ∧ Aside0 (Kd.R (Kd.int .u32) 86 w' w.heap.size (fun _ => True) v149 t147) ∧ Aside0 (Below w.heap.size w w'))
         case atStart => exact ⟨(0), (by first | rfl | (simp; done) | (simp [*]; done)), H', ⟨Nat.le_refl _⟩, ⟨rl HO_8⟩, ⟨bl HB⟩⟩
         case round =>
          clear H'
          try clear c1
          try clear p1
          try clear q1
          try clear hx1
          try clear c2
          try clear p2
          try clear c3
          try clear c5
          try clear p6
          try clear c7
          try clear c10
          try clear c10b0
          try clear c11
          try clear c11b0
          try clear c12
          try clear c12b0
          try clear c15
          try clear c15b0
          try clear c15b1
          try clear p15
          try clear q15
          try clear hx15
          try clear c17
          try clear hx152_0
          try clear p1
          try clear p15
          try clear p152
          try clear p2
          try clear p6
          try clear q1
          try clear q15
          try clear q152
          obtain ⟨x52_3, rfl, HA, HK3, HO_8, HB⟩ := hrel
          cases gk with
          | zero => exact absurd HA.out (by simp [rib_IsRing.l1])
          | succ k3 =>
           have H := HA.out
           clear HA
           simp only [rib_IsRing.l1] at H
           by_cases c18 : x52_3 < (l2.length : Int)
           ·rw [if_pos c18] at H
            have c18b0 : decide (x52_3 < (l2.length : Int)) = true := decide_eq_true c18
            clear c18
            by_cases c19 : 0 ≤ x52_3
            ·rw [if_pos c19] at H
             have c19b0 : decide (0 ≤ x52_3) = true := decide_eq_true c19
             clear c19
             by_cases c20 : x52_3 < (l2.length : Int)
             ·rw [if_pos c20] at H
              have c20b0 : decide (x52_3 < (l2.length : Int)) = true := decide_eq_true c20
              clear c20
              by_cases c21 : 0 ≤ (rd l2 x52_3)
              ·rw [if_pos c21] at H
               have c21b0 : decide (0 ≤ (rd l2 x52_3)) = true := decide_eq_true c21
               clear c21
               by_cases c22 : (rd l2 x52_3) < (t147.length : Int)
               ·rw [if_pos c22] at H
                have c22b0 : decide ((rd l2 x52_3) < (t147.length : Int)) = true := decide_eq_true c22
                clear c22
                by_cases c23 : (l2.length : Int) = 0
                ·rw [if_pos c23] at H
                 exact absurd H (by simp)
                ·rw [if_neg c23] at H
                 have c23b0 : ((l2.length : Int) == 0) = false := beq_eq_false_iff_ne.mpr c23
                 have c23b1 : ((l2.length : Int) != 0) = true := bne_iff_ne.mpr c23
                 have c23b2 : ¬ (l2 = []) := fun h_ => c23 (by rw [h_]; rfl)
                 obtain ⟨ji24, hji24⟩ : ∃ j_ : Int, (Int.tmod (wrap64 (x52_3 + 1)) (l2.length : Int)) = j_ := ⟨_, rfl⟩
                 replace H : (if 0 ≤ (ji24) then (if (ji24) < (l2.length : Int) then ((rib_one.f (rd l2 (ji24))).bind fun t158 => (if 0 ≤ (Int.tmod (wrap64 ((wrap64 (x52_3 + (l2.length : Int))) - 1)) (l2.length : Int)) then (if (Int.tmod (wrap64 ((wrap64 (x52_3 + (l2.length : Int))) - 1)) (l2.length : Int)) < (l2.length : Int) then ((rib_one.f (rd l2 (Int.tmod (wrap64 ((wrap64 (x52_3 + (l2.length : Int))) - 1)) (l2.length : Int)))).bind fun t160 => (if (Go.bits .and .u32 (rd t147 (rd l2 x52_3)) x10_1) = (Go.bits .or .u32 t158 t160) then (rib_IsRing.l1 k3 l2 t147 x10_1 (l2.length : Int) l2 (l2.length : Int) (wrap64 (x52_3 + 1))) else (some (false, 0)))) else (none)) else (none))) else (none)) else (none)) = some (r1, r2) := by first | (rw [hji24] at H; exact H) | (simp only [hji24] at H ⊢; exact H)
                 by_cases c25 : 0 ≤ (ji24)
                 ·rw [if_pos c25] at H
                  have c25b0 : decide (0 ≤ (ji24)) = true := decide_eq_true c25
                  clear c25
                  by_cases c26 : (ji24) < (l2.length : Int)
                  ·rw [if_pos c26] at H
                   have c26b0 : decide ((ji24) < (l2.length : Int)) = true := decide_eq_true c26
                   clear c26
                   replace H := Option.bind_eq_some_iff.mp H
                   obtain ⟨t158, A270, H⟩ := H
                   replace H : (if 0 ≤ (Int.tmod (wrap64 ((wrap64 (x52_3 + (l2.length : Int))) - 1)) (l2.length : Int)) then (if (Int.tmod (wrap64 ((wrap64 (x52_3 + (l2.length : Int))) - 1)) (l2.length : Int)) < (l2.length : Int) then ((rib_one.f (rd l2 (Int.tmod (wrap64 ((wrap64 (x52_3 + (l2.length : Int))) - 1)) (l2.length : Int)))).bind fun t160 => (if (Go.bits .and .u32 (rd t147 (rd l2 x52_3)) x10_1) = (Go.bits .or .u32 t158 t160) then (rib_IsRing.l1 k3 l2 t147 x10_1 (l2.length : Int) l2 (l2.length : Int) (wrap64 (x52_3 + 1))) else (some (false, 0)))) else (none)) else (none)) = some (r1, r2) := H
                   have A27 := Aside0.mk A270
                   clear A270
                   obtain ⟨ji28, hji28⟩ : ∃ j_ : Int, (Int.tmod (wrap64 ((wrap64 (x52_3 + (l2.length : Int))) - 1)) (l2.length : Int)) = j_ := ⟨_, rfl⟩
                   replace H : (if 0 ≤ (ji28) then (if (ji28) < (l2.length : Int) then ((rib_one.f (rd l2 (ji28))).bind fun t160 => (if (Go.bits .and .u32 (rd t147 (rd l2 x52_3)) x10_1) = (Go.bits .or .u32 t158 t160) then (rib_IsRing.l1 k3 l2 t147 x10_1 (l2.length : Int) l2 (l2.length : Int) (wrap64 (x52_3 + 1))) else (some (false, 0)))) else (none)) else (none)) = some (r1, r2) := by first | (rw [hji28] at H; exact H) | (simp only [hji28] at H ⊢; exact H)
                   (try rw [hji28] at A27)
                   by_cases c29 : 0 ≤ (ji28)
                   ·rw [if_pos c29] at H
                    have c29b0 : decide (0 ≤ (ji28)) = true := decide_eq_true c29
                    clear c29
                    by_cases c30 : (ji28) < (l2.length : Int)
                    ·rw [if_pos c30] at H
                     have c30b0 : decide ((ji28) < (l2.length : Int)) = true := decide_eq_true c30
                     clear c30
                     replace H := Option.bind_eq_some_iff.mp H
                     obtain ⟨t160, A310, H⟩ := H
                     replace H : (if (Go.bits .and .u32 (rd t147 (rd l2 x52_3)) x10_1) = (Go.bits .or .u32 t158 t160) then (rib_IsRing.l1 k3 l2 t147 x10_1 (l2.length : Int) l2 (l2.length : Int) (wrap64 (x52_3 + 1))) else (some (false, 0))) = some (r1, r2) := H
                     have A31 := Aside0.mk A310
                     clear A310
                     by_cases c32 : (Go.bits .and .u32 (rd t147 (rd l2 x52_3)) x10_1) = (Go.bits .or .u32 t158 t160)
                     ·rw [if_pos c32] at H
                      have c32b0 : ((Go.bits .and .u32 (rd t147 (rd l2 x52_3)) x10_1) == (Go.bits .or .u32 t158 t160)) = true := beq_iff_eq.mpr c32
                      have c32b1 : ((Go.bits .and .u32 (rd t147 (rd l2 x52_3)) x10_1) != (Go.bits .or .u32 t158 t160)) = false := bne_eq_false_iff_eq.mpr c32
                      clear c32
                      have H' := Aside0.mk H
                      clear H
                      have p155 : 0 ≤ (x52_3 : Int) := ofd
                      have q155 : x52_3 < (l2.length : Int) := ofd
                      obtain ⟨ad155, e155, hx155_0⟩ := Kd.at_int HR2.out x52_3 p155 q155
                      cases e155
                      replace hx155_0 := (HB.out.cell (World.block_lt_of_cell? w _ hx155_0)).trans hx155_0
                      replace p155 := eq_true p155
                      replace q155 := eq_true q155
                      obtain ⟨Ao33, co33, eo33⟩ := Kd.R_slice HO_8.out
                      subst eo33
                      have p156 : 0 ≤ ((rd l2 x52_3) : Int) := ofd
                      have q156 : (rd l2 x52_3) < (t147.length : Int) := ofd
                      obtain ⟨ad156, e156, hx156_0⟩ := Kd.at_int (Kd.R_reads' HO_8.out).2.2 (rd l2 x52_3) p156 q156
                      cases e156
                      replace p156 := eq_true p156
                      replace q156 := eq_true q156
                      have p157 : 0 ≤ ((ji24) : Int) := ofd
                      have q157 : (ji24) < (l2.length : Int) := ofd
                      obtain ⟨ad157, e157, hx157_0⟩ := Kd.at_int HR2.out (ji24) p157 q157
                      obtain rfl : ad155 = ad157 := (by injection e157)
                      replace hx157_0 := (HB.out.cell (World.block_lt_of_cell? w _ hx157_0)).trans hx157_0
                      replace p157 := eq_true p157
                      replace q157 := eq_true q157
                      have p159 : 0 ≤ ((ji28) : Int) := ofd
                      have q159 : (ji28) < (l2.length : Int) := ofd
                      obtain ⟨ad159, e159, hx159_0⟩ := Kd.at_int HR2.out (ji28) p159 q159
                      obtain rfl : ad155 = ad159 := (by injection e159)
                      replace hx159_0 := (HB.out.cell (World.block_lt_of_cell? w _ hx159_0)).trans hx159_0
                      replace p159 := eq_true p159
                      replace q159 := eq_true q159
                      have hjw24 : Int.tmod (IntKind.i64.wrap (x52_3 + 1)) (l2.length : Int) = ji24 := by rw [i64_w]; exact hji24
                      have hjw28 : Int.tmod (IntKind.i64.wrap (IntKind.i64.wrap (x52_3 + (l2.length : Int)) - 1)) (l2.length : Int) = ji28 := by rw [i64_w, i64_w]; exact hji28
                      go_wp2_with (first | (go_at_call 67; (with_reducible refine (rib_one.calls (rd l2 (ji24)) t158 _ A27.out).mono ?_); rintro e w' ⟨rfl, ⟨nd, rfl⟩⟩; (try first | exact ⟨rfl, _, World.drewN_drewN _ _ _⟩ | exact ⟨rfl, _, Eq.trans (World.drewN_drewN _ _ _) (congrArg (World.drewN _) (Nat.add_assoc _ _ _))⟩); have p159 : 0 ≤ ((ji28) : Int) := ofd; have q159 : (ji28) < (l2.length : Int) := ofd; obtain ⟨ad159, e159, hx159_0⟩ := Kd.at_int HR2.out (ji28) p159 q159; obtain rfl : ad155 = ad159 := (by injection e159); replace hx159_0 := (HB.out.cell (World.block_lt_of_cell? w _ hx159_0)).trans hx159_0; replace p159 := eq_true p159; replace q159 := eq_true q159) | (go_at_call 67; (with_reducible refine (rib_one.calls (rd l2 (ji28)) t160 _ A31.out).mono ?_); rintro e w' ⟨rfl, ⟨nd, rfl⟩⟩; (try first | exact ⟨rfl, _, World.drewN_drewN _ _ _⟩ | exact ⟨rfl, _, Eq.trans (World.drewN_drewN _ _ _) (congrArg (World.drewN _) (Nat.add_assoc _ _ _))⟩)))
                      repeat (go_quiet (first | (go_at_call 67; (with_reducible refine (rib_one.calls (rd l2 (ji24)) t158 _ A27.out).mono ?_); rintro e w' ⟨rfl, ⟨nd, rfl⟩⟩; (try first | exact ⟨rfl, _, World.drewN_drewN _ _ _⟩ | exact ⟨rfl, _, Eq.trans (World.drewN_drewN _ _ _) (congrArg (World.drewN _) (Nat.add_assoc _ _ _))⟩); have p159 : 0 ≤ ((ji28) : Int) := ofd; have q159 : (ji28) < (l2.length : Int) := ofd; obtain ⟨ad159, e159, hx159_0⟩ := Kd.at_int HR2.out (ji28) p159 q159; obtain rfl : ad155 = ad159 := (by injection e159); replace hx159_0 := (HB.out.cell (World.block_lt_of_cell? w _ hx159_0)).trans hx159_0; replace p159 := eq_true p159; replace q159 := eq_true q159) | (go_at_call 67; (with_reducible refine (rib_one.calls (rd l2 (ji28)) t160 _ A31.out).mono ?_); rintro e w' ⟨rfl, ⟨nd, rfl⟩⟩; (try first | exact ⟨rfl, _, World.drewN_drewN _ _ _⟩ | exact ⟨rfl, _, Eq.trans (World.drewN_drewN _ _ _) (congrArg (World.drewN _) (Nat.add_assoc _ _ _))⟩))); try go_wp2_with (first | (go_at_call 67; (with_reducible refine (rib_one.calls (rd l2 (ji24)) t158 _ A27.out).mono ?_); rintro e w' ⟨rfl, ⟨nd, rfl⟩⟩; (try first | exact ⟨rfl, _, World.drewN_drewN _ _ _⟩ | exact ⟨rfl, _, Eq.trans (World.drewN_drewN _ _ _) (congrArg (World.drewN _) (Nat.add_assoc _ _ _))⟩); have p159 : 0 ≤ ((ji28) : Int) := ofd; have q159 : (ji28) < (l2.length : Int) := ofd; obtain ⟨ad159, e159, hx159_0⟩ := Kd.at_int HR2.out (ji28) p159 q159; obtain rfl : ad155 = ad159 := (by injection e159); replace hx159_0 := (HB.out.cell (World.block_lt_of_cell? w _ hx159_0)).trans hx159_0; replace p159 := eq_true p159; replace q159 := eq_true q159) | (go_at_call 67; (with_reducible refine (rib_one.calls (rd l2 (ji28)) t160 _ A31.out).mono ?_); rintro e w' ⟨rfl, ⟨nd, rfl⟩⟩; (try first | exact ⟨rfl, _, World.drewN_drewN _ _ _⟩ | exact ⟨rfl, _, Eq.trans (World.drewN_drewN _ _ _) (congrArg (World.drewN _) (Nat.add_assoc _ _ _))⟩))))
                      go_roundg k3
                      case measure => have := HK1.out; have := HJ13.out; have := HK3.out; omega
                      case rel => exact ⟨(wrap64 (x52_3 + 1)), (by first | rfl | (simp; done) | (simp [*]; done)), H', ⟨by have := HK1.out; have := HJ13.out; have := HK3.out; omega⟩, ⟨rl HO_8⟩, ⟨bl HB⟩⟩
                     ·rw [if_neg c32] at H
                      have c32b0 : ((Go.bits .and .u32 (rd t147 (rd l2 x52_3)) x10_1) == (Go.bits .or .u32 t158 t160)) = false := beq_eq_false_iff_ne.mpr c32
                      have c32b1 : ((Go.bits .and .u32 (rd t147 (rd l2 x52_3)) x10_1) != (Go.bits .or .u32 t158 t160)) = true := bne_iff_ne.mpr c32
                      simp only [Option.some.injEq, Prod.mk.injEq] at H
                      obtain ⟨rfl, rfl⟩ := H
                      have p155 : 0 ≤ (x52_3 : Int) := ofd
                      have q155 : x52_3 < (l2.length : Int) := ofd
                      obtain ⟨ad155, e155, hx155_0⟩ := Kd.at_int HR2.out x52_3 p155 q155
                      cases e155
                      replace hx155_0 := (HB.out.cell (World.block_lt_of_cell? w _ hx155_0)).trans hx155_0
                      replace p155 := eq_true p155
                      replace q155 := eq_true q155
                      obtain ⟨Ao34, co34, eo34⟩ := Kd.R_slice HO_8.out
                      subst eo34
                      have p156 : 0 ≤ ((rd l2 x52_3) : Int) := ofd
                      have q156 : (rd l2 x52_3) < (t147.length : Int) := ofd
                      obtain ⟨ad156, e156, hx156_0⟩ := Kd.at_int (Kd.R_reads' HO_8.out).2.2 (rd l2 x52_3) p156 q156
                      cases e156
                      replace p156 := eq_true p156
                      replace q156 := eq_true q156
                      have p157 : 0 ≤ ((ji24) : Int) := ofd
                      have q157 : (ji24) < (l2.length : Int) := ofd
                      obtain ⟨ad157, e157, hx157_0⟩ := Kd.at_int HR2.out (ji24) p157 q157
                      obtain rfl : ad155 = ad157 := (by injection e157)
                      replace hx157_0 := (HB.out.cell (World.block_lt_of_cell? w _ hx157_0)).trans hx157_0
                      replace p157 := eq_true p157
                      replace q157 := eq_true q157
                      have p159 : 0 ≤ ((ji28) : Int) := ofd
                      have q159 : (ji28) < (l2.length : Int) := ofd
                      obtain ⟨ad159, e159, hx159_0⟩ := Kd.at_int HR2.out (ji28) p159 q159
                      obtain rfl : ad155 = ad159 := (by injection e159)
                      replace hx159_0 := (HB.out.cell (World.block_lt_of_cell? w _ hx159_0)).trans hx159_0
                      replace p159 := eq_true p159
                      replace q159 := eq_true q159
                      have hjw24 : Int.tmod (IntKind.i64.wrap (x52_3 + 1)) (l2.length : Int) = ji24 := by rw [i64_w]; exact hji24
                      have hjw28 : Int.tmod (IntKind.i64.wrap (IntKind.i64.wrap (x52_3 + (l2.length : Int)) - 1)) (l2.length : Int) = ji28 := by rw [i64_w, i64_w]; exact hji28
                      go_wp2_with (first | (go_at_call 67; (with_reducible refine (rib_one.calls (rd l2 (ji24)) t158 _ A27.out).mono ?_); rintro e w' ⟨rfl, ⟨nd, rfl⟩⟩; (try first | exact ⟨rfl, _, World.drewN_drewN _ _ _⟩ | exact ⟨rfl, _, Eq.trans (World.drewN_drewN _ _ _) (congrArg (World.drewN _) (Nat.add_assoc _ _ _))⟩); have p159 : 0 ≤ ((ji28) : Int) := ofd; have q159 : (ji28) < (l2.length : Int) := ofd; obtain ⟨ad159, e159, hx159_0⟩ := Kd.at_int HR2.out (ji28) p159 q159; obtain rfl : ad155 = ad159 := (by injection e159); replace hx159_0 := (HB.out.cell (World.block_lt_of_cell? w _ hx159_0)).trans hx159_0; replace p159 := eq_true p159; replace q159 := eq_true q159) | (go_at_call 67; (with_reducible refine (rib_one.calls (rd l2 (ji28)) t160 _ A31.out).mono ?_); rintro e w' ⟨rfl, ⟨nd, rfl⟩⟩; (try first | exact ⟨rfl, _, World.drewN_drewN _ _ _⟩ | exact ⟨rfl, _, Eq.trans (World.drewN_drewN _ _ _) (congrArg (World.drewN _) (Nat.add_assoc _ _ _))⟩)))
                      repeat (go_quiet (first | (go_at_call 67; (with_reducible refine (rib_one.calls (rd l2 (ji24)) t158 _ A27.out).mono ?_); rintro e w' ⟨rfl, ⟨nd, rfl⟩⟩; (try first | exact ⟨rfl, _, World.drewN_drewN _ _ _⟩ | exact ⟨rfl, _, Eq.trans (World.drewN_drewN _ _ _) (congrArg (World.drewN _) (Nat.add_assoc _ _ _))⟩); have p159 : 0 ≤ ((ji28) : Int) := ofd; have q159 : (ji28) < (l2.length : Int) := ofd; obtain ⟨ad159, e159, hx159_0⟩ := Kd.at_int HR2.out (ji28) p159 q159; obtain rfl : ad155 = ad159 := (by injection e159); replace hx159_0 := (HB.out.cell (World.block_lt_of_cell? w _ hx159_0)).trans hx159_0; replace p159 := eq_true p159; replace q159 := eq_true q159) | (go_at_call 67; (with_reducible refine (rib_one.calls (rd l2 (ji28)) t160 _ A31.out).mono ?_); rintro e w' ⟨rfl, ⟨nd, rfl⟩⟩; (try first | exact ⟨rfl, _, World.drewN_drewN _ _ _⟩ | exact ⟨rfl, _, Eq.trans (World.drewN_drewN _ _ _) (congrArg (World.drewN _) (Nat.add_assoc _ _ _))⟩))); try go_wp2_with (first | (go_at_call 67; (with_reducible refine (rib_one.calls (rd l2 (ji24)) t158 _ A27.out).mono ?_); rintro e w' ⟨rfl, ⟨nd, rfl⟩⟩; (try first | exact ⟨rfl, _, World.drewN_drewN _ _ _⟩ | exact ⟨rfl, _, Eq.trans (World.drewN_drewN _ _ _) (congrArg (World.drewN _) (Nat.add_assoc _ _ _))⟩); have p159 : 0 ≤ ((ji28) : Int) := ofd; have q159 : (ji28) < (l2.length : Int) := ofd; obtain ⟨ad159, e159, hx159_0⟩ := Kd.at_int HR2.out (ji28) p159 q159; obtain rfl : ad155 = ad159 := (by injection e159); replace hx159_0 := (HB.out.cell (World.block_lt_of_cell? w _ hx159_0)).trans hx159_0; replace p159 := eq_true p159; replace q159 := eq_true q159) | (go_at_call 67; (with_reducible refine (rib_one.calls (rd l2 (ji28)) t160 _ A31.out).mono ?_); rintro e w' ⟨rfl, ⟨nd, rfl⟩⟩; (try first | exact ⟨rfl, _, World.drewN_drewN _ _ _⟩ | exact ⟨rfl, _, Eq.trans (World.drewN_drewN _ _ _) (congrArg (World.drewN _) (Nat.add_assoc _ _ _))⟩))))
                      go_ret2
                      exact ⟨by first | rfl | (simp [errW_none, errW_some] <;> rfl) | (simp only [← hji24, ← hji28]; first | rfl | (simp [errW_none, errW_some] <;> rfl)) | (simp [*, errW_none, errW_some] <;> rfl), by repeat (first | (with_reducible first | exact HB.out | apply below_alloc | apply pw_below_drewN | apply below_drew1) | exact HB.out)⟩
                    ·rw [if_neg c30] at H
                     exact absurd H (by simp)
                   ·rw [if_neg c29] at H
                    exact absurd H (by simp)
                  ·rw [if_neg c26] at H
                   exact absurd H (by simp)
                 ·rw [if_neg c25] at H
                  exact absurd H (by simp)
               ·rw [if_neg c22] at H
                exact absurd H (by simp)
              ·rw [if_neg c21] at H
               exact absurd H (by simp)
             ·rw [if_neg c20] at H
              exact absurd H (by simp)
            ·rw [if_neg c19] at H
             exact absurd H (by simp)
           ·rw [if_neg c18] at H
            have c18b0 : decide (x52_3 < (l2.length : Int)) = false := decide_eq_false c18
            clear c18
            simp only [Option.some.injEq, Prod.mk.injEq] at H
            obtain ⟨rfl, rfl⟩ := H
            go_wp2
            repeat (go_quiet (fail); try go_wp2)
            go_ret2
            exact ⟨by first | rfl | (simp [errW_none, errW_some] <;> rfl) | (simp [*, errW_none, errW_some] <;> rfl), by repeat (first | (with_reducible first | exact HB.out | apply below_alloc | apply pw_below_drewN | apply below_drew1) | exact HB.out)⟩
 ·replace c5 := Bool.eq_false_iff.mpr c5
  subst c5
  have H1 : (some (false, 1)) = some (r1, r2) := by rw [if_neg (show ¬ (false = true) by decide)] at H; exact H
  clear H
  have H := H1
  clear H1
  simp only [Option.some.injEq, Prod.mk.injEq] at H
  obtain ⟨rfl, rfl⟩ := H
  go_enter Try.func32, Try.ntmps32
  go_wp2_with (first | (go_at_call 52; (with_reducible refine (rib_read.calls k a0 _ _ l1 t147 false _ ?side1 ?side2 A4.out).mono ?_); (case side1 => exact cl (HR1.out)); (case side2 => exact HC1.out); rintro e w35 ⟨v149, rfl, ho0, hb⟩; have n0_ := Aside0.mk (Kd.R_lower ho0 (below_size (bl HB))); have n1_ := Aside0.mk (below_step (bl HB) hb); clear HB; have HO150 := n0_; have HB := n1_; clear n0_ n1_; (try clear hb); (try clear hb2); (try clear hk); (try clear hi); (try clear ho0)))
  repeat (go_quiet (first | (go_at_call 52; (with_reducible refine (rib_read.calls k a0 _ _ l1 t147 false _ ?side1 ?side2 A4.out).mono ?_); (case side1 => exact cl (HR1.out)); (case side2 => exact HC1.out); rintro e w35 ⟨v149, rfl, ho0, hb⟩; have n0_ := Aside0.mk (Kd.R_lower ho0 (below_size (bl HB))); have n1_ := Aside0.mk (below_step (bl HB) hb); clear HB; have HO150 := n0_; have HB := n1_; clear n0_ n1_; (try clear hb); (try clear hb2); (try clear hk); (try clear hi); (try clear ho0))); try go_wp2_with (first | (go_at_call 52; (with_reducible refine (rib_read.calls k a0 _ _ l1 t147 false _ ?side1 ?side2 A4.out).mono ?_); (case side1 => exact cl (HR1.out)); (case side2 => exact HC1.out); rintro e w35 ⟨v149, rfl, ho0, hb⟩; have n0_ := Aside0.mk (Kd.R_lower ho0 (below_size (bl HB))); have n1_ := Aside0.mk (below_step (bl HB) hb); clear HB; have HO150 := n0_; have HB := n1_; clear n0_ n1_; (try clear hb); (try clear hb2); (try clear hk); (try clear hi); (try clear ho0))))
  go_ret2
  exact ⟨by first | rfl | (simp [errW_none, errW_some] <;> rfl) | (simp [*, errW_none, errW_some] <;> rfl), by repeat (first | (with_reducible first | exact HB.out | apply below_alloc | apply pw_below_drewN | apply below_drew1) | exact HB.out)⟩
end Go.Proofs.Ytdpolfflemocaaa.Re

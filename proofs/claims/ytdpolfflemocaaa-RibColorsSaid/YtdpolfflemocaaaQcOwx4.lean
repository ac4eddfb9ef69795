/- The declarations of Owx4 that the claim Qc needs. -/
import Derived.Test.YtdpolfflemocaaaQcTkP
import Derived.Test.YtdpolfflemocaaaQcOwx0
import Derived.Test.YtdpolfflemocaaaQcOwx3
namespace Go.Proofs.Ytdpolfflemocaaa.Own
open Go.RowKit Go.Proofs.Ytdpolfflemocaaa.Own Go.Proofs.YtdpolfflemocaaaW.PrintWords Go.Proofs.YtdpolfflemocaaaW.PrintLast Go.Proofs.YtdpolfflemocaaaW.PrintMore
attribute [local go_sem] max2_int min2_int max_two min_two max_three min_three max_four min_four
set_option linter.unusedVariables false
set_option linter.unusedSimpArgs false
theorem held_drewN {w : World} {a : Addr} {o : Option Value} (h : w.cell? a = o) (n : Nat) : (w.drewN n).cell? a = o := h
mutual
def rib_read.j0 : Nat → Int → List (S52) → Bool → Option (List Int × Bool)
  | 0, _, _, _ => none
  | k + 1, x0, x1, x14 => if x14 = true then (some (([] : List Int), false)) else (if 0 ≤ x0 then (if (x0 : Int).toNat ≤ 70368744177664 then (rib_read.l0 k x0 (List.replicate (x0 : Int).toNat 0) x1 (x1.length : Int) 0) else (none)) else (none))
def rib_read.l0 : Nat → Int → List Int → List (S52) → Int → Int → Option (List Int × Bool)
  | 0, _, _, _, _, _ => none
  | k + 1, x0, x6, x17, x18, x19 => if x19 < x18 then (if 0 ≤ x19 then (if x19 < (x17.length : Int) then (if ((rd_T52 x17 x19).f0) < 0 then (rib_read.j2 k x0 x6 x17 x18 x19 true ((rd_T52 x17 x19).f0) ((rd_T52 x17 x19).f1)) else (if ((rd_T52 x17 x19).f0) ≥ ((rd_T52 x17 x19).f1) then (rib_read.j2 k x0 x6 x17 x18 x19 true ((rd_T52 x17 x19).f0) ((rd_T52 x17 x19).f1)) else (if ((rd_T52 x17 x19).f1) ≥ x0 then (rib_read.j2 k x0 x6 x17 x18 x19 true ((rd_T52 x17 x19).f0) ((rd_T52 x17 x19).f1)) else (if 0 ≤ ((rd_T52 x17 x19).f0) then (if ((rd_T52 x17 x19).f0) < (x6.length : Int) then ((rib_set_has.f (rd x6 ((rd_T52 x17 x19).f0)) ((rd_T52 x17 x19).f1)).bind fun t120 => (rib_read.j2 k x0 x6 x17 x18 x19 t120 ((rd_T52 x17 x19).f0) ((rd_T52 x17 x19).f1))) else (none)) else (none))))) else (none)) else (none)) else (some (x6, true))
def rib_read.j2 : Nat → Int → List Int → List (S52) → Int → Int → Bool → Int → Int → Option (List Int × Bool)
  | 0, _, _, _, _, _, _, _, _ => none
  | k + 1, x0, x6, x17, x18, x19, x48, x119000, x119001 => if x48 = true then (some (([] : List Int), false)) else (if 0 ≤ x119000 then (if x119000 < (x6.length : Int) then ((rib_one.f x119001).bind fun t122 => ((some (x6.set (x119000 : Int).toNat (Go.bits .or .u32 (rd x6 x119000) t122) : List Int)).bind fun y123 => (if 0 ≤ x119001 then (if x119001 < (x6.length : Int) then ((rib_one.f x119000).bind fun t125 => (rib_read.l0 k x0 (y123.set (x119001 : Int).toNat (Go.bits .or .u32 (rd y123 x119001) t125)) x17 x18 (wrap64 (x19 + 1)))) else (none)) else (none)))) else (none)) else (none))
end
def rib_read.f (k : Nat) (a0 : Int) (l1 : List (S52)) : Option (List Int × Bool) := if a0 < 1 then (rib_read.j0 k a0 l1 true) else (rib_read.j0 k a0 l1 (decide (a0 > 12)))
theorem rib_read.mono_l : ∀ k, (∀ y0 y1 y2, LeO (rib_read.j0 k y0 y1 y2) (rib_read.j0 (k + 1) y0 y1 y2)) ∧ (∀ y0 y1 y2 y3 y4, LeO (rib_read.l0 k y0 y1 y2 y3 y4) (rib_read.l0 (k + 1) y0 y1 y2 y3 y4)) ∧ (∀ y0 y1 y2 y3 y4 y5 y6 y7, LeO (rib_read.j2 k y0 y1 y2 y3 y4 y5 y6 y7) (rib_read.j2 (k + 1) y0 y1 y2 y3 y4 y5 y6 y7))
 | 0 => ⟨fun _ _ _ r h => by simp [rib_read.j0] at h, fun _ _ _ _ _ r h => by simp [rib_read.l0] at h, fun _ _ _ _ _ _ _ _ r h => by simp [rib_read.j2] at h⟩
 | k + 1 => by
  obtain ⟨ih0, ih1, ih2⟩ := rib_read.mono_l k
  refine ⟨?_, ?_, ?_⟩
  ·intro y0 y1 y2
   unfold rib_read.j0
   repeat' first
   | (with_reducible exact ih0 _ _ _)
   | (with_reducible exact ih1 _ _ _ _ _)
   | (with_reducible exact ih2 _ _ _ _ _ _ _ _)
   | (with_reducible exact LeO.refl _)
   | (with_reducible exact LeO.none _)
   | (with_reducible refine LeO.ite ?_ ?_)
   | (with_reducible refine LeO.bind ?_ (fun _ => ?_))
   | exact ih0 _ _ _
   | exact ih1 _ _ _ _ _
   | exact ih2 _ _ _ _ _ _ _ _
   | exact LeO.none _
   | refine LeO.ite ?_ ?_
   | refine LeO.bind ?_ (fun _ => ?_)
  ·intro y0 y1 y2 y3 y4
   unfold rib_read.l0
   repeat' first
   | (with_reducible exact ih0 _ _ _)
   | (with_reducible exact ih1 _ _ _ _ _)
   | (with_reducible exact ih2 _ _ _ _ _ _ _ _)
   | (with_reducible exact LeO.refl _)
   | (with_reducible exact LeO.none _)
   | (with_reducible refine LeO.ite ?_ ?_)
   | (with_reducible refine LeO.bind ?_ (fun _ => ?_))
   | exact ih0 _ _ _
   | exact ih1 _ _ _ _ _
   | exact ih2 _ _ _ _ _ _ _ _
   | exact LeO.none _
   | refine LeO.ite ?_ ?_
   | refine LeO.bind ?_ (fun _ => ?_)
  ·intro y0 y1 y2 y3 y4 y5 y6 y7
   unfold rib_read.j2
   repeat' first
   | (with_reducible exact ih0 _ _ _)
   | (with_reducible exact ih1 _ _ _ _ _)
   | (with_reducible exact ih2 _ _ _ _ _ _ _ _)
   | (with_reducible exact LeO.refl _)
   | (with_reducible exact LeO.none _)
   | (with_reducible refine LeO.ite ?_ ?_)
   | (with_reducible refine LeO.bind ?_ (fun _ => ?_))
   | exact ih0 _ _ _
   | exact ih1 _ _ _ _ _
   | exact ih2 _ _ _ _ _ _ _ _
   | exact LeO.none _
   | refine LeO.ite ?_ ?_
   | refine LeO.bind ?_ (fun _ => ?_)
theorem rib_read.mono : ∀ a0 a1 k, LeO (rib_read.f k a0 a1) (rib_read.f (k + 1) a0 a1) := by
  intro a0 a1 k
  obtain ⟨ih0, ih1, ih2⟩ := rib_read.mono_l k
  unfold rib_read.f
  repeat' first
      | (with_reducible exact ih0 _ _ _)
      | (with_reducible exact ih1 _ _ _ _ _)
      | (with_reducible exact ih2 _ _ _ _ _ _ _ _)
      | (with_reducible exact LeO.refl _)
      | (with_reducible exact LeO.none _)
      | (with_reducible refine LeO.ite ?_ ?_)
      | (with_reducible refine LeO.bind ?_ (fun _ => ?_))
      | exact ih0 _ _ _
      | exact ih1 _ _ _ _ _
      | exact ih2 _ _ _ _ _ _ _ _
      | exact LeO.none _
      | refine LeO.ite ?_ ?_
      | refine LeO.bind ?_ (fun _ => ?_)
def rib_read.T7 : Bool × List (List Nat × List Nat) := (true, [([], []), ([0], [0]), ([1], [1]), ([2], [2]), ([3], [3]), ([4, 3], [3, 4]), ([3], [3]), ([6, 3], [3, 6]), ([5, 7, 3], [3, 5, 7]), ([3, 8], [3, 8]), ([9, 3], [9]), ([10], [10]), ([11, 10], [10, 11]), ([10], [10]), ([12, 13, 10], [10, 12, 13]), ([10, 14], [10, 14]), ([15, 10], [15]), ([16], [16]), ([16], [16]), ([18, 16], [16, 18]), ([17, 19, 16], [16, 17, 19]), ([20, 16], [16, 20]), ([16], [16]), ([22, 16], [16, 22]), ([21, 23, 16, 16], [16, 21, 23]), ([16, 24], [16, 24])])
def rib_read.B7 : List Nat := [0, 1, 3, 7, 15, 31, 15, 79, 255, 511, 1023, 2047, 4095, 2047, 16383, 32767, 65535, 131071, 131071, 393215, 1048575, 2097151, 131071, 4325375, 16777215, 33554431]
theorem rib_read.tab7 : rtab .any (opsOf Try.f52 7) = rib_read.T7 := by kernel_rfl
theorem rib_read.bits7 : waitsOk rib_read.T7.2 rib_read.B7 = true := by kernel_rfl
def rib_read.T9 : Bool × List (List Nat × List Nat) := (true, [([], []), ([], []), ([1], [1]), ([0, 2], [0, 2]), ([3], [3]), ([], []), ([5], [5]), ([6], [6]), ([4, 7], [4, 7]), ([0, 2, 0, 1, 2, 3, 4, 5, 6, 7, 8], [0, 2]), ([9, 8, 7, 0, 1, 2, 3, 4, 5, 6, 7, 8], [8, 9])])
def rib_read.B9 : List Nat := [0, 0, 2, 7, 15, 0, 32, 96, 255, 511, 1023]
theorem rib_read.tab9 : rtab .any (opsOf Try.f52 9) = rib_read.T9 := by kernel_rfl
theorem rib_read.bits9 : waitsOk rib_read.T9.2 rib_read.B9 = true := by kernel_rfl
def rib_read.T10 : Bool × List (List Nat × List Nat) := (true, [([], []), ([], []), ([1], [1]), ([0, 2], [0, 2]), ([3], [3]), ([], []), ([5], [5]), ([6], [6]), ([4, 7], [4, 7]), ([0, 2, 0, 1, 2, 3, 4, 5, 6, 7, 8], [0, 2]), ([9, 8, 7, 0, 1, 2, 3, 4, 5, 6, 7, 8], [8, 9])])
def rib_read.B10 : List Nat := [0, 0, 2, 7, 15, 0, 32, 96, 255, 511, 1023]
theorem rib_read.tab10 : rtab .any (opsOf Try.f52 10) = rib_read.T10 := by kernel_rfl
theorem rib_read.bits10 : waitsOk rib_read.T10.2 rib_read.B10 = true := by kernel_rfl
set_option maxHeartbeats 8000000 in
set_option maxRecDepth 100000 in
theorem rib_read.calls (k : Nat) (a0 : Int) (A1 : Option Addr) (c1 : Nat) (l1 : List (S52)) (r1 : List Int) (r2 : Bool) (w : World) (hr1 : Kd.C k52 w A1 l1.length l1) (hc1 : l1.length ≤ c1) (h : rib_read.f k a0 l1 = some (r1, r2)) :
  Calls Try.prog 52 #[.int .i64 a0, .slice A1 l1.length c1] w fun e w' => ∃ v0_ : Value, e = .returned (.tuple #[v0_, .bool r2]) ∧ Kd.R (Kd.int .u32) 86 w' w.heap.size (fun _ => True) v0_ r1 ∧ Below w.heap.size w w' := by
 have hu52 := Try.underlying52
 have HR1 := Aside0.mk hr1
 have HC1 := Aside0.mk hc1
 clear hr1 hc1
 have HB := Aside0.mk (Below.refl w.heap.size w)
 have H : (if a0 < 1 then (rib_read.j0 k a0 l1 true) else (rib_read.j0 k a0 l1 (decide (a0 > 12)))) = some (r1, r2) := h
 clear h
 have HC3 := Aside0.mk H
 clear H
 go_enter Try.func52, Try.ntmps52
 go_upto_region 1 with (fail)
 go_cut [14] (fun v14 wc => ∃ (kq : Nat) (x14_2 : Bool), v14 = .bool x14_2 ∧ Aside0 (rib_read.j0 kq a0 l1 x14_2 = some (r1, r2)) ∧ Aside0 (kq ≤ k) ∧ Aside0 (Below w.heap.size w wc))
 case first =>
  have H := HC3.out
  clear HC3
  by_cases c4 : a0 < 1
  ·rw [if_pos c4] at H
   have c4b0 : decide (a0 < 1) = true := decide_eq_true c4
   clear c4
   (first | rw [c4b0] | (simp only [i64_w, i32_w]; rw [c4b0]) | skip)
   have H' := Aside0.mk H
   clear H
   go_wp2
   go_meet
   case rel => exact ⟨_, (true), (by first | rfl | (simp; done) | (simp [*]; done)), H', ⟨by first | omega | exact Nat.le_refl _⟩, ⟨bl HB⟩⟩
  ·rw [if_neg c4] at H
   have c4b0 : decide (a0 < 1) = false := decide_eq_false c4
   clear c4
   (first | rw [c4b0] | (simp only [i64_w, i32_w]; rw [c4b0]) | skip)
   have H' := Aside0.mk H
   clear H
   go_wp2
   go_meet
   case rel => exact ⟨_, (decide (a0 > 12)), (by first | rfl | (simp; done) | (simp [*]; done)), H', ⟨by first | omega | exact Nat.le_refl _⟩, ⟨bl HB⟩⟩
 case rest =>
  clear HC3
  try clear c1
  try clear p2
  try clear c4
  try clear c4b0
  obtain ⟨kq, x14_2, rfl, HA, HJ2, HB⟩ := hcut
  cases kq with
  | zero => exact absurd HA.out (by simp [rib_read.j0])
  | succ kj2 =>
   have H := HA.out
   clear HA
   simp only [rib_read.j0] at H
   by_cases c5 : x14_2 = true
   ·subst c5
    have H1 : (some (([] : List Int), false)) = some (r1, r2) := by rw [if_pos rfl] at H; exact H
    clear H
    have H := H1
    clear H1
    simp only [Option.some.injEq, Prod.mk.injEq] at H
    obtain ⟨rfl, rfl⟩ := H
    go_wp2
    go_ret2
    exact ⟨_, by first | rfl | (simp [errW_none, errW_some] <;> rfl) | (simp [*, errW_none, errW_some] <;> rfl), by first | exact Kd.R_nil _ _ _ _ _ | exact Kd.N_nil _ _ _ _ _ | exact Kd.V_nil _ _ _ _ _ | exact Kd.Q_nil _ _ _ _ _ | exact Kd.S_nil _ _ _ _ _, by repeat (first | (with_reducible first | exact HB.out | apply below_alloc | apply pw_below_drewN | apply below_drew1) | exact HB.out)⟩
   ·replace c5 := Bool.eq_false_iff.mpr c5
    subst c5
    have H1 : (if 0 ≤ a0 then (if (a0 : Int).toNat ≤ 70368744177664 then (rib_read.l0 kj2 a0 (List.replicate (a0 : Int).toNat 0) l1 (l1.length : Int) 0) else (none)) else (none)) = some (r1, r2) := by rw [if_neg (show ¬ (false = true) by decide)] at H; exact H
    clear H
    have H := H1
    clear H1
    by_cases c6 : 0 ≤ a0
    ·rw [if_pos c6] at H
     have c6b0 := eq_true c6
     have c6b1 : decide (0 ≤ a0) = true := decide_eq_true c6
     clear c6
     by_cases c7 : (a0 : Int).toNat ≤ 70368744177664
     ·rw [if_pos c7] at H
      have c7b0 := eq_true c7
      have c7b1 : decide ((a0 : Int).toNat ≤ 70368744177664) = true := decide_eq_true c7
      clear c7
      obtain ⟨y114, hy114⟩ : ∃ y_ : List Int, y_ = (List.replicate (a0 : Int).toNat 0) := ⟨_, rfl⟩
      replace H : (rib_read.l0 kj2 a0 y114 l1 (l1.length : Int) 0) = some (r1, r2) := by first | (rw [hy114]; with_reducible exact H) | (have H2_ := (Option.bind_some _ _).symm.trans H; rw [hy114]; with_reducible exact H2_) | (have H2_ := (Option.bind_some _ _).symm.trans H; with_reducible exact H2_) | with_reducible exact H | (rw [hy114]; exact H) | exact H
      have Ny114 := Aside0.mk hy114
      clear hy114
      have H' := Aside0.mk H
      clear H
      go_wp2_with (first | ((with_reducible refine gate_dst (N := 16) rfl ?_); refine Kd.R_make (Kd.int .u32) _ 86 rfl (N := 16) rfl 76 _ _ rfl a0 rfl rfl Try.underlying76 (.int .u32 0) 4 info86 rfl (by decide) (by omega) 0 (ok := fun _ => True) (okp := fun _ => True) rfl (fun _ hk => hk) trivial (ofd) (Nat.le_trans (Nat.mul_le_mul_right _ (ofd : a0.toNat ≤ 70368744177664)) (by omega)) (Below.refl _ _) (Nat.le_refl _) ?_; intro v115 w8 ho9 hb hg_ hnew_; clear hg_ hnew_; (first | rw [← Ny114.out] at ho9 | (simp only [Int.reduceToNat] at ho9; rw [← Ny114.out] at ho9)); have n0_ := Aside0.mk (Kd.R_lower ho9 (below_size (bl HB))); have n1_ := Aside0.mk (below_step (bl HB) hb); clear HB; have HO116 := n0_; have HB := n1_; clear n0_ n1_; clear hb ho9))
      go_loopg [19] kj2 (fun kq v19 w' => ∃ (x6_2 : List Int) (x19_2 : Int), v19 = .int .i64 x19_2 ∧ Aside0 (rib_read.l0 kq a0 x6_2 l1 (l1.length : Int) x19_2 = some (r1, r2)) ∧ Aside0 (kq ≤ kj2) ∧ Aside0 (Kd.R (Kd.int .u32) 86 w' w.heap.size (fun _ => True) v115 x6_2) ∧ Aside0 (Below w.heap.size w w'))
      case atStart => exact ⟨(y114), (0), (by first | rfl | (simp; done) | (simp [*]; done)), H', ⟨Nat.le_refl _⟩, ⟨rl HO116⟩, ⟨bl HB⟩⟩
      case round =>
       clear H'
       try clear c1
       try clear p2
       try clear c4
       try clear c4b0
       try clear c5
       try clear c6
       try clear c6b0
       try clear c6b1
       try clear c7
       try clear c7b0
       try clear c7b1
       try clear p2
       obtain ⟨x6_2, x19_2, rfl, HA, HK2, HO_6, HB⟩ := hrel
       cases gk with
       | zero => exact absurd HA.out (by simp [rib_read.l0])
       | succ k2 =>
        have H := HA.out
        clear HA
        simp only [rib_read.l0] at H
        by_cases c10 : x19_2 < (l1.length : Int)
        ·rw [if_pos c10] at H
         have c10b0 : decide (x19_2 < (l1.length : Int)) = true := decide_eq_true c10
         clear c10
         by_cases c11 : 0 ≤ x19_2
         ·rw [if_pos c11] at H
          have c11b0 : decide (0 ≤ x19_2) = true := decide_eq_true c11
          clear c11
          by_cases c12 : x19_2 < (l1.length : Int)
          ·rw [if_pos c12] at H
           have c12b0 : decide (x19_2 < (l1.length : Int)) = true := decide_eq_true c12
           clear c12
           have HC13 := Aside0.mk H
           clear H
           have p117 : 0 ≤ (x19_2 : Int) := ofd
           have q117 : x19_2 < (l1.length : Int) := ofd
           obtain ⟨ad117, e117, hx117_0, hx117_1⟩ := at_T52 HR1.out x19_2 p117 q117
           cases e117
           replace hx117_0 := (HB.out.cell (World.block_lt_of_cell? w _ hx117_0)).trans hx117_0
           replace hx117_1 := (HB.out.cell (World.block_lt_of_cell? w _ hx117_1)).trans hx117_1
           replace p117 := eq_true p117
           replace q117 := eq_true q117
           go_upto_region 7 with (first | ((with_reducible refine gate_dst (N := 8) rfl ?_); refine box_event ?hg (N := 8) ?hd (cs := #[.int .i64 0, .int .i64 0]) (t := 52) ?hr ?_; (case hd => rfl); (case hg => rfl); (case hr => first | (go_simp; done) | (go_simp; rfl)); intro gb118 hg w14 hbox hb; have n0_ := Aside0.mk (Kd.R_below (rl HO_6) hb); have n1_ := Aside0.mk (below_step (bl HB) hb); have n2_ := Aside0.mk (hbox); have n3_ := Aside0.mk ((by rw [hg]; exact (below_size (bl HB)) : w.heap.size ≤ gb118)); have n4_ := Aside0.mk ((by rw [hg]; exact (below_size (bl HB)) : w.heap.size ≤ gb118)); clear HO_6; clear HB; have HO_6 := n0_; have HB := n1_; have BK118 := n2_; have GW118 := n3_; have GE118 := n4_; clear n0_ n1_ n2_ n3_ n4_; clear hb hbox hg; have hcz15_0 : w14.cell? ⟨gb118, 0, none⟩ = some (.int .i64 0) := (blk_cell BK118.out 0).trans rfl; have hcz15_1 : w14.cell? ⟨gb118, 1, none⟩ = some (.int .i64 0) := (blk_cell BK118.out 1).trans rfl; have hfz15_0 := blk_frozen BK118.out 0; have hfz15_1 := blk_frozen BK118.out 1))
           (try simp only [Act.put, List.setIfInBounds_toArray, List.set_cons_zero, List.set_cons_succ])
           go_cut [48] (fun v48 wc => ∃ (kq : Nat) (x48_12 : Bool), v48 = .bool x48_12 ∧ Aside0 (rib_read.j2 kq a0 x6_2 l1 (l1.length : Int) x19_2 x48_12 ((rd_T52 l1 x19_2).f0) ((rd_T52 l1 x19_2).f1) = some (r1, r2)) ∧ Aside0 (kq ≤ k2) ∧ Aside0 (Kd.R (Kd.int .u32) 86 wc w.heap.size (fun _ => True) v115 x6_2) ∧ Aside0 (wc.heap[gb118]? = some (.cells #[.int .i64 ((rd_T52 l1 x19_2).f0), .int .i64 ((rd_T52 l1 x19_2).f1)] 52 (0, 0))) ∧ Aside0 (Below w.heap.size w wc))
           case first =>
            have H := HC13.out
            clear HC13
            by_cases c16 : ((rd_T52 l1 x19_2).f0) < 0
            ·rw [if_pos c16] at H
             have c16b0 : decide (((rd_T52 l1 x19_2).f0) < 0) = true := decide_eq_true c16
             clear c16
             (first | rw [c16b0] | (simp only [i64_w, i32_w]; rw [c16b0]) | skip)
             have H' := Aside0.mk H
             clear H
             try go_wp2
             have n0_ : Aside0 (Kd.R (Kd.int .u32) 86 ((w14.setCell ⟨gb118, 0, none⟩ (.int .i64 ((rd_T52 l1 x19_2).f0))).setCell ⟨gb118, 1, none⟩ (.int .i64 ((rd_T52 l1 x19_2).f1))) w.heap.size (fun _ => True) v115 x6_2) := ⟨by (with_reducible repeat (first | apply Kd.R_alloc | apply Kd.R_drewN | apply Kd.R_drew)); exact Kd.R_mono (Kd.R_far (p := ⟨gb118, 1, none⟩) (Kd.R_far (p := ⟨gb118, 0, none⟩) (Kd.R_types HO_6.out BK118.out (by decide)) (fun _ hk => hk.2) (.int .i64 ((rd_T52 l1 x19_2).f0))) (fun _ hk => hk.2) (.int .i64 ((rd_T52 l1 x19_2).f1))) (fun _ hk => trivial)⟩
             have n1_ : Aside0 (((w14.setCell ⟨gb118, 0, none⟩ (.int .i64 ((rd_T52 l1 x19_2).f0))).setCell ⟨gb118, 1, none⟩ (.int .i64 ((rd_T52 l1 x19_2).f1))).heap[gb118]? = some (.cells #[.int .i64 ((rd_T52 l1 x19_2).f0), .int .i64 ((rd_T52 l1 x19_2).f1)] 52 (0, 0))) := ⟨by (with_reducible repeat (first | refine blk_drewN ?_ _ | refine blk_drew ?_ | refine blk_alloc ?_ _)); refine blk_put (cs := #[.int .i64 ((rd_T52 l1 x19_2).f0), .int .i64 0]) ?_ 1 _ rfl; (with_reducible repeat (first | refine blk_drewN ?_ _ | refine blk_drew ?_ | refine blk_alloc ?_ _)); refine blk_put (cs := #[.int .i64 0, .int .i64 0]) ?_ 0 _ rfl; (with_reducible repeat (first | refine blk_drewN ?_ _ | refine blk_drew ?_ | refine blk_alloc ?_ _)); exact BK118.out⟩
             have n2_ : Aside0 (Below w.heap.size w ((w14.setCell ⟨gb118, 0, none⟩ (.int .i64 ((rd_T52 l1 x19_2).f0))).setCell ⟨gb118, 1, none⟩ (.int .i64 ((rd_T52 l1 x19_2).f1)))) := ⟨bl HB⟩
             (try clear HO_6)
             (try clear BK118)
             (try clear HB)
             generalize ((w14.setCell ⟨gb118, 0, none⟩ (.int .i64 ((rd_T52 l1 x19_2).f0))).setCell ⟨gb118, 1, none⟩ (.int .i64 ((rd_T52 l1 x19_2).f1))) = w17 at n0_ n1_ n2_ ⊢
             have HO_6 := n0_
             have BK118 := n1_
             have HB := n2_
             clear n0_ n1_ n2_
             have n0_ := Aside0.mk (Kd.R_drew HO_6.out)
             have n1_ := Aside0.mk (blk_drew BK118.out)
             have n2_ := Aside0.mk (below_drew1 HB.out)
             clear HO_6
             clear BK118
             clear HB
             have HO_6 := n0_
             have BK118 := n1_
             have HB := n2_
             clear n0_ n1_ n2_
             refine start_ (n := 26) (S := fun w' => w'.cell? ⟨gb118, 0, none⟩ = some (.int .i64 ((rd_T52 l1 x19_2).f0)) ∧ w'.cell? ⟨gb118, 1, none⟩ = some (.int .i64 ((rd_T52 l1 x19_2).f1))) (ds := []) #[false, false, false, false, false, false, false, false, false, false, false, false, false, false, false, false, false, false, false, false, false, false, false, false, false, false] (by kernel_rfl) rfl rfl ⟨(blk_cell BK118.out 0).trans rfl, (blk_cell BK118.out 1).trans rfl⟩ (fun hHeld => ?_); refine with_tabW rib_read.tab7 rib_read.bits7 (fun HT_ HW_ => ?_)
             generalize w17.drew = w18 at HO_6 BK118 HB hHeld ⊢
             refine pr 0 23 HT_ ?_
             refine tr 1 24 HT_ HW_ hHeld ?_
             refine pr 2 25 HT_ ?_
             refine pr 3 26 HT_ ?_
             refine pure_ (i := 4) (N := some 27) (v := undef) (a' := ?_) #[true, true, true, true, true, false, false, false, false, false, false, false, false, false, false, false, false, false, false, false, false, false, false, false, false, false] rfl rfl (any_of HT_.out (by kernel_rfl)) (fun _ _ _ h => h) (Or.inr ⟨by rfl, rfl⟩) ?_ ?_
             rotate_left
             ·simp only [Act.put, List.setIfInBounds_toArray, List.set_cons_zero, List.set_cons_succ, i64_w, i32_w]
              rfl
             refine pure_ (i := 5) (N := some 28) (v := undef) (a' := ?_) #[true, true, true, true, true, true, false, false, false, false, false, false, false, false, false, false, false, false, false, false, false, false, false, false, false, false] rfl rfl (any_of HT_.out (by kernel_rfl)) (fun _ _ _ h => h) (Or.inr ⟨by rfl, rfl⟩) ?_ ?_
             rotate_left
             ·simp only [Act.put, List.setIfInBounds_toArray, List.set_cons_zero, List.set_cons_succ, i64_w, i32_w]
              rfl
             refine pure_ (i := 6) (N := some 29) (v := undef) (a' := ?_) #[true, true, true, true, true, true, true, false, false, false, false, false, false, false, false, false, false, false, false, false, false, false, false, false, false, false] rfl rfl (any_of HT_.out (by kernel_rfl)) (fun _ _ _ h => h) (Or.inr ⟨by rfl, rfl⟩) ?_ ?_
             rotate_left
             ·simp only [Act.put, List.setIfInBounds_toArray, List.set_cons_zero, List.set_cons_succ, i64_w, i32_w]
              rfl
             refine pure_ (i := 7) (N := some 30) (v := undef) (a' := ?_) #[true, true, true, true, true, true, true, true, false, false, false, false, false, false, false, false, false, false, false, false, false, false, false, false, false, false] rfl rfl (any_of HT_.out (by kernel_rfl)) (fun _ _ _ h => h) (Or.inr ⟨by rfl, rfl⟩) ?_ ?_
             rotate_left
             ·simp only [Act.put, List.setIfInBounds_toArray, List.set_cons_zero, List.set_cons_succ, i64_w, i32_w]
              rfl
             refine pure_ (i := 8) (N := some 31) (v := undef) (a' := ?_) #[true, true, true, true, true, true, true, true, true, false, false, false, false, false, false, false, false, false, false, false, false, false, false, false, false, false] rfl rfl (any_of HT_.out (by kernel_rfl)) (fun _ _ _ h => h) (Or.inr ⟨by rfl, rfl⟩) ?_ ?_
             rotate_left
             ·simp only [Act.put, List.setIfInBounds_toArray, List.set_cons_zero, List.set_cons_succ, i64_w, i32_w]
              rfl
             refine pr 9 32 HT_ ?_
             refine pr 10 33 HT_ ?_
             refine pure_ (i := 11) (N := some 34) (v := undef) (a' := ?_) #[true, true, true, true, true, true, true, true, true, true, true, true, false, false, false, false, false, false, false, false, false, false, false, false, false, false] rfl rfl (any_of HT_.out (by kernel_rfl)) (fun _ _ _ h => h) (Or.inr ⟨by rfl, rfl⟩) ?_ ?_
             rotate_left
             ·simp only [Act.put, List.setIfInBounds_toArray, List.set_cons_zero, List.set_cons_succ, i64_w, i32_w]
              rfl
             refine pure_ (i := 12) (N := some 35) (v := undef) (a' := ?_) #[true, true, true, true, true, true, true, true, true, true, true, true, true, false, false, false, false, false, false, false, false, false, false, false, false, false] rfl rfl (any_of HT_.out (by kernel_rfl)) (fun _ _ _ h => h) (Or.inr ⟨by rfl, rfl⟩) ?_ ?_
             rotate_left
             ·simp only [Act.put, List.setIfInBounds_toArray, List.set_cons_zero, List.set_cons_succ, i64_w, i32_w]
              rfl
             refine pure_ (i := 13) (N := some 36) (v := undef) (a' := ?_) #[true, true, true, true, true, true, true, true, true, true, true, true, true, true, false, false, false, false, false, false, false, false, false, false, false, false] rfl rfl (any_of HT_.out (by kernel_rfl)) (fun _ _ _ h => h) (Or.inr ⟨by rfl, rfl⟩) ?_ ?_
             rotate_left
             ·simp only [Act.put, List.setIfInBounds_toArray, List.set_cons_zero, List.set_cons_succ, i64_w, i32_w]
              rfl
             refine pure_ (i := 14) (N := some 37) (v := undef) (a' := ?_) #[true, true, true, true, true, true, true, true, true, true, true, true, true, true, true, false, false, false, false, false, false, false, false, false, false, false] rfl rfl (any_of HT_.out (by kernel_rfl)) (fun _ _ _ h => h) (Or.inr ⟨by rfl, rfl⟩) ?_ ?_
             rotate_left
             ·simp only [Act.put, List.setIfInBounds_toArray, List.set_cons_zero, List.set_cons_succ, i64_w, i32_w]
              rfl
             refine pr 15 38 HT_ ?_
             refine pr 16 39 HT_ ?_
             refine pure_ (i := 17) (N := some 40) (v := undef) (a' := ?_) #[true, true, true, true, true, true, true, true, true, true, true, true, true, true, true, true, true, true, false, false, false, false, false, false, false, false] rfl rfl (any_of HT_.out (by kernel_rfl)) (fun _ _ _ h => h) (Or.inr ⟨by rfl, rfl⟩) ?_ ?_
             rotate_left
             ·simp only [Act.put, List.setIfInBounds_toArray, List.set_cons_zero, List.set_cons_succ, i64_w, i32_w]
              rfl
             refine pure_ (i := 18) (N := some 41) (v := undef) (a' := ?_) #[true, true, true, true, true, true, true, true, true, true, true, true, true, true, true, true, true, true, true, false, false, false, false, false, false, false] rfl rfl (any_of HT_.out (by kernel_rfl)) (fun _ _ _ h => h) (Or.inr ⟨by rfl, rfl⟩) ?_ ?_
             rotate_left
             ·simp only [Act.put, List.setIfInBounds_toArray, List.set_cons_zero, List.set_cons_succ, i64_w, i32_w]
              rfl
             refine pure_ (i := 19) (N := some 42) (v := undef) (a' := ?_) #[true, true, true, true, true, true, true, true, true, true, true, true, true, true, true, true, true, true, true, true, false, false, false, false, false, false] rfl rfl (any_of HT_.out (by kernel_rfl)) (fun _ _ _ h => h) (Or.inr ⟨by rfl, rfl⟩) ?_ ?_
             rotate_left
             ·simp only [Act.put, List.setIfInBounds_toArray, List.set_cons_zero, List.set_cons_succ, i64_w, i32_w]
              rfl
             refine pure_ (i := 20) (N := some 43) (v := undef) (a' := ?_) #[true, true, true, true, true, true, true, true, true, true, true, true, true, true, true, true, true, true, true, true, true, false, false, false, false, false] rfl rfl (any_of HT_.out (by kernel_rfl)) (fun _ _ _ h => h) (Or.inr ⟨by rfl, rfl⟩) ?_ ?_
             rotate_left
             ·simp only [Act.put, List.setIfInBounds_toArray, List.set_cons_zero, List.set_cons_succ, i64_w, i32_w]
              rfl
             refine pure_ (i := 21) (N := some 44) (v := undef) (a' := ?_) #[true, true, true, true, true, true, true, true, true, true, true, true, true, true, true, true, true, true, true, true, true, true, false, false, false, false] rfl rfl (any_of HT_.out (by kernel_rfl)) (fun _ _ _ h => h) (Or.inr ⟨by rfl, rfl⟩) ?_ ?_
             rotate_left
             ·simp only [Act.put, List.setIfInBounds_toArray, List.set_cons_zero, List.set_cons_succ, i64_w, i32_w]
              rfl
             refine pure_ (i := 22) (N := some 45) (v := undef) (a' := ?_) #[true, true, true, true, true, true, true, true, true, true, true, true, true, true, true, true, true, true, true, true, true, true, true, false, false, false] rfl rfl (any_of HT_.out (by kernel_rfl)) (fun _ _ _ h => h) (Or.inr ⟨by rfl, rfl⟩) ?_ ?_
             rotate_left
             ·simp only [Act.put, List.setIfInBounds_toArray, List.set_cons_zero, List.set_cons_succ, i64_w, i32_w]
              rfl
             refine pure_ (i := 23) (N := some 46) (v := undef) (a' := ?_) #[true, true, true, true, true, true, true, true, true, true, true, true, true, true, true, true, true, true, true, true, true, true, true, true, false, false] rfl rfl (any_of HT_.out (by kernel_rfl)) (fun _ _ _ h => h) (Or.inr ⟨by rfl, rfl⟩) ?_ ?_
             rotate_left
             ·simp only [Act.put, List.setIfInBounds_toArray, List.set_cons_zero, List.set_cons_succ, i64_w, i32_w]
              rfl
             refine pure_ (i := 24) (N := some 47) (v := undef) (a' := ?_) #[true, true, true, true, true, true, true, true, true, true, true, true, true, true, true, true, true, true, true, true, true, true, true, true, true, false] rfl rfl (any_of HT_.out (by kernel_rfl)) (fun _ _ _ h => h) (Or.inr ⟨by rfl, rfl⟩) ?_ ?_
             rotate_left
             ·simp only [Act.put, List.setIfInBounds_toArray, List.set_cons_zero, List.set_cons_succ, i64_w, i32_w]
              rfl
             refine pr 25 48 HT_ ?_
             refine dn HT_ ?_
             try go_wp2
             go_meet
             case rel => exact ⟨_, (true), (by first | rfl | (simp; done) | (simp [*]; done)), H', ⟨by have := HJ2.out; have := HK2.out; first | omega | exact Nat.le_refl _⟩, ⟨rl HO_6⟩, ⟨bk BK118⟩, ⟨bl HB⟩⟩
            ·rw [if_neg c16] at H
             have c16b0 : decide (((rd_T52 l1 x19_2).f0) < 0) = false := decide_eq_false c16
             clear c16
             (first | rw [c16b0] | (simp only [i64_w, i32_w]; rw [c16b0]) | skip)
             by_cases c19 : ((rd_T52 l1 x19_2).f0) ≥ ((rd_T52 l1 x19_2).f1)
             ·rw [if_pos c19] at H
              have c19b0 : decide (((rd_T52 l1 x19_2).f1) ≤ ((rd_T52 l1 x19_2).f0)) = true := decide_eq_true c19
              clear c19
              have H' := Aside0.mk H
              clear H
              try go_wp2
              have n0_ : Aside0 (Kd.R (Kd.int .u32) 86 ((w14.setCell ⟨gb118, 0, none⟩ (.int .i64 ((rd_T52 l1 x19_2).f0))).setCell ⟨gb118, 1, none⟩ (.int .i64 ((rd_T52 l1 x19_2).f1))) w.heap.size (fun _ => True) v115 x6_2) := ⟨by (with_reducible repeat (first | apply Kd.R_alloc | apply Kd.R_drewN | apply Kd.R_drew)); exact Kd.R_mono (Kd.R_far (p := ⟨gb118, 1, none⟩) (Kd.R_far (p := ⟨gb118, 0, none⟩) (Kd.R_types HO_6.out BK118.out (by decide)) (fun _ hk => hk.2) (.int .i64 ((rd_T52 l1 x19_2).f0))) (fun _ hk => hk.2) (.int .i64 ((rd_T52 l1 x19_2).f1))) (fun _ hk => trivial)⟩
              have n1_ : Aside0 (((w14.setCell ⟨gb118, 0, none⟩ (.int .i64 ((rd_T52 l1 x19_2).f0))).setCell ⟨gb118, 1, none⟩ (.int .i64 ((rd_T52 l1 x19_2).f1))).heap[gb118]? = some (.cells #[.int .i64 ((rd_T52 l1 x19_2).f0), .int .i64 ((rd_T52 l1 x19_2).f1)] 52 (0, 0))) := ⟨by (with_reducible repeat (first | refine blk_drewN ?_ _ | refine blk_drew ?_ | refine blk_alloc ?_ _)); refine blk_put (cs := #[.int .i64 ((rd_T52 l1 x19_2).f0), .int .i64 0]) ?_ 1 _ rfl; (with_reducible repeat (first | refine blk_drewN ?_ _ | refine blk_drew ?_ | refine blk_alloc ?_ _)); refine blk_put (cs := #[.int .i64 0, .int .i64 0]) ?_ 0 _ rfl; (with_reducible repeat (first | refine blk_drewN ?_ _ | refine blk_drew ?_ | refine blk_alloc ?_ _)); exact BK118.out⟩
              have n2_ : Aside0 (Below w.heap.size w ((w14.setCell ⟨gb118, 0, none⟩ (.int .i64 ((rd_T52 l1 x19_2).f0))).setCell ⟨gb118, 1, none⟩ (.int .i64 ((rd_T52 l1 x19_2).f1)))) := ⟨bl HB⟩
              (try clear HO_6)
              (try clear BK118)
              (try clear HB)
              generalize ((w14.setCell ⟨gb118, 0, none⟩ (.int .i64 ((rd_T52 l1 x19_2).f0))).setCell ⟨gb118, 1, none⟩ (.int .i64 ((rd_T52 l1 x19_2).f1))) = w20 at n0_ n1_ n2_ ⊢
              have HO_6 := n0_
              have BK118 := n1_
              have HB := n2_
              clear n0_ n1_ n2_
              have n0_ := Aside0.mk (Kd.R_drew HO_6.out)
              have n1_ := Aside0.mk (blk_drew BK118.out)
              have n2_ := Aside0.mk (below_drew1 HB.out)
              clear HO_6
              clear BK118
              clear HB
              have HO_6 := n0_
              have BK118 := n1_
              have HB := n2_
              clear n0_ n1_ n2_
              refine start_ (n := 26) (S := fun w' => w'.cell? ⟨gb118, 0, none⟩ = some (.int .i64 ((rd_T52 l1 x19_2).f0)) ∧ w'.cell? ⟨gb118, 1, none⟩ = some (.int .i64 ((rd_T52 l1 x19_2).f1))) (ds := []) #[false, false, false, false, false, false, false, false, false, false, false, false, false, false, false, false, false, false, false, false, false, false, false, false, false, false] (by kernel_rfl) rfl rfl ⟨(blk_cell BK118.out 0).trans rfl, (blk_cell BK118.out 1).trans rfl⟩ (fun hHeld => ?_); refine with_tabW rib_read.tab7 rib_read.bits7 (fun HT_ HW_ => ?_)
              generalize w20.drew = w21 at HO_6 BK118 HB hHeld ⊢
              refine pr 0 23 HT_ ?_
              refine tr 1 24 HT_ HW_ hHeld ?_
              refine pr 2 25 HT_ ?_
              refine pr 3 26 HT_ ?_
              refine pr 4 27 HT_ ?_
              refine pr 6 29 HT_ ?_
              refine tr 5 28 HT_ HW_ hHeld ?_
              refine tr 7 30 HT_ HW_ hHeld ?_
              refine pr 8 31 HT_ ?_
              refine pr 9 32 HT_ ?_
              refine pr 10 33 HT_ ?_
              refine pure_ (i := 11) (N := some 34) (v := undef) (a' := ?_) #[true, true, true, true, true, true, true, true, true, true, true, true, false, false, false, false, false, false, false, false, false, false, false, false, false, false] rfl rfl (any_of HT_.out (by kernel_rfl)) (fun _ _ _ h => h) (Or.inr ⟨by rfl, rfl⟩) ?_ ?_
              rotate_left
              ·simp only [Act.put, List.setIfInBounds_toArray, List.set_cons_zero, List.set_cons_succ, i64_w, i32_w]
               rfl
              refine pure_ (i := 12) (N := some 35) (v := undef) (a' := ?_) #[true, true, true, true, true, true, true, true, true, true, true, true, true, false, false, false, false, false, false, false, false, false, false, false, false, false] rfl rfl (any_of HT_.out (by kernel_rfl)) (fun _ _ _ h => h) (Or.inr ⟨by rfl, rfl⟩) ?_ ?_
              rotate_left
              ·simp only [Act.put, List.setIfInBounds_toArray, List.set_cons_zero, List.set_cons_succ, i64_w, i32_w]
               rfl
              refine pure_ (i := 13) (N := some 36) (v := undef) (a' := ?_) #[true, true, true, true, true, true, true, true, true, true, true, true, true, true, false, false, false, false, false, false, false, false, false, false, false, false] rfl rfl (any_of HT_.out (by kernel_rfl)) (fun _ _ _ h => h) (Or.inr ⟨by rfl, rfl⟩) ?_ ?_
              rotate_left
              ·simp only [Act.put, List.setIfInBounds_toArray, List.set_cons_zero, List.set_cons_succ, i64_w, i32_w]
               rfl
              refine pure_ (i := 14) (N := some 37) (v := undef) (a' := ?_) #[true, true, true, true, true, true, true, true, true, true, true, true, true, true, true, false, false, false, false, false, false, false, false, false, false, false] rfl rfl (any_of HT_.out (by kernel_rfl)) (fun _ _ _ h => h) (Or.inr ⟨by rfl, rfl⟩) ?_ ?_
              rotate_left
              ·simp only [Act.put, List.setIfInBounds_toArray, List.set_cons_zero, List.set_cons_succ, i64_w, i32_w]
               rfl
              refine pr 15 38 HT_ ?_
              refine pr 16 39 HT_ ?_
              refine pure_ (i := 17) (N := some 40) (v := undef) (a' := ?_) #[true, true, true, true, true, true, true, true, true, true, true, true, true, true, true, true, true, true, false, false, false, false, false, false, false, false] rfl rfl (any_of HT_.out (by kernel_rfl)) (fun _ _ _ h => h) (Or.inr ⟨by rfl, rfl⟩) ?_ ?_
              rotate_left
              ·simp only [Act.put, List.setIfInBounds_toArray, List.set_cons_zero, List.set_cons_succ, i64_w, i32_w]
               rfl
              refine pure_ (i := 18) (N := some 41) (v := undef) (a' := ?_) #[true, true, true, true, true, true, true, true, true, true, true, true, true, true, true, true, true, true, true, false, false, false, false, false, false, false] rfl rfl (any_of HT_.out (by kernel_rfl)) (fun _ _ _ h => h) (Or.inr ⟨by rfl, rfl⟩) ?_ ?_
              rotate_left
              ·simp only [Act.put, List.setIfInBounds_toArray, List.set_cons_zero, List.set_cons_succ, i64_w, i32_w]
               rfl
              refine pure_ (i := 19) (N := some 42) (v := undef) (a' := ?_) #[true, true, true, true, true, true, true, true, true, true, true, true, true, true, true, true, true, true, true, true, false, false, false, false, false, false] rfl rfl (any_of HT_.out (by kernel_rfl)) (fun _ _ _ h => h) (Or.inr ⟨by rfl, rfl⟩) ?_ ?_
              rotate_left
              ·simp only [Act.put, List.setIfInBounds_toArray, List.set_cons_zero, List.set_cons_succ, i64_w, i32_w]
               rfl
              refine pure_ (i := 20) (N := some 43) (v := undef) (a' := ?_) #[true, true, true, true, true, true, true, true, true, true, true, true, true, true, true, true, true, true, true, true, true, false, false, false, false, false] rfl rfl (any_of HT_.out (by kernel_rfl)) (fun _ _ _ h => h) (Or.inr ⟨by rfl, rfl⟩) ?_ ?_
              rotate_left
              ·simp only [Act.put, List.setIfInBounds_toArray, List.set_cons_zero, List.set_cons_succ, i64_w, i32_w]
               rfl
              refine pure_ (i := 21) (N := some 44) (v := undef) (a' := ?_) #[true, true, true, true, true, true, true, true, true, true, true, true, true, true, true, true, true, true, true, true, true, true, false, false, false, false] rfl rfl (any_of HT_.out (by kernel_rfl)) (fun _ _ _ h => h) (Or.inr ⟨by rfl, rfl⟩) ?_ ?_
              rotate_left
              ·simp only [Act.put, List.setIfInBounds_toArray, List.set_cons_zero, List.set_cons_succ, i64_w, i32_w]
               rfl
              refine pure_ (i := 22) (N := some 45) (v := undef) (a' := ?_) #[true, true, true, true, true, true, true, true, true, true, true, true, true, true, true, true, true, true, true, true, true, true, true, false, false, false] rfl rfl (any_of HT_.out (by kernel_rfl)) (fun _ _ _ h => h) (Or.inr ⟨by rfl, rfl⟩) ?_ ?_
              rotate_left
              ·simp only [Act.put, List.setIfInBounds_toArray, List.set_cons_zero, List.set_cons_succ, i64_w, i32_w]
               rfl
              refine pure_ (i := 23) (N := some 46) (v := undef) (a' := ?_) #[true, true, true, true, true, true, true, true, true, true, true, true, true, true, true, true, true, true, true, true, true, true, true, true, false, false] rfl rfl (any_of HT_.out (by kernel_rfl)) (fun _ _ _ h => h) (Or.inr ⟨by rfl, rfl⟩) ?_ ?_
              rotate_left
              ·simp only [Act.put, List.setIfInBounds_toArray, List.set_cons_zero, List.set_cons_succ, i64_w, i32_w]
               rfl
              refine pure_ (i := 24) (N := some 47) (v := undef) (a' := ?_) #[true, true, true, true, true, true, true, true, true, true, true, true, true, true, true, true, true, true, true, true, true, true, true, true, true, false] rfl rfl (any_of HT_.out (by kernel_rfl)) (fun _ _ _ h => h) (Or.inr ⟨by rfl, rfl⟩) ?_ ?_
              rotate_left
              ·simp only [Act.put, List.setIfInBounds_toArray, List.set_cons_zero, List.set_cons_succ, i64_w, i32_w]
               rfl
              refine pr 25 48 HT_ ?_
              refine dn HT_ ?_
              try go_wp2
              go_meet
              case rel => exact ⟨_, (true), (by first | rfl | (simp; done) | (simp [*]; done)), H', ⟨by have := HJ2.out; have := HK2.out; first | omega | exact Nat.le_refl _⟩, ⟨rl HO_6⟩, ⟨bk BK118⟩, ⟨bl HB⟩⟩
             ·rw [if_neg c19] at H
              have c19b0 : decide (((rd_T52 l1 x19_2).f1) ≤ ((rd_T52 l1 x19_2).f0)) = false := decide_eq_false c19
              clear c19
              by_cases c22 : ((rd_T52 l1 x19_2).f1) ≥ a0
              ·rw [if_pos c22] at H
               have c22b0 : decide (a0 ≤ ((rd_T52 l1 x19_2).f1)) = true := decide_eq_true c22
               clear c22
               have H' := Aside0.mk H
               clear H
               try go_wp2
               have n0_ : Aside0 (Kd.R (Kd.int .u32) 86 ((w14.setCell ⟨gb118, 0, none⟩ (.int .i64 ((rd_T52 l1 x19_2).f0))).setCell ⟨gb118, 1, none⟩ (.int .i64 ((rd_T52 l1 x19_2).f1))) w.heap.size (fun _ => True) v115 x6_2) := ⟨by (with_reducible repeat (first | apply Kd.R_alloc | apply Kd.R_drewN | apply Kd.R_drew)); exact Kd.R_mono (Kd.R_far (p := ⟨gb118, 1, none⟩) (Kd.R_far (p := ⟨gb118, 0, none⟩) (Kd.R_types HO_6.out BK118.out (by decide)) (fun _ hk => hk.2) (.int .i64 ((rd_T52 l1 x19_2).f0))) (fun _ hk => hk.2) (.int .i64 ((rd_T52 l1 x19_2).f1))) (fun _ hk => trivial)⟩
               have n1_ : Aside0 (((w14.setCell ⟨gb118, 0, none⟩ (.int .i64 ((rd_T52 l1 x19_2).f0))).setCell ⟨gb118, 1, none⟩ (.int .i64 ((rd_T52 l1 x19_2).f1))).heap[gb118]? = some (.cells #[.int .i64 ((rd_T52 l1 x19_2).f0), .int .i64 ((rd_T52 l1 x19_2).f1)] 52 (0, 0))) := ⟨by (with_reducible repeat (first | refine blk_drewN ?_ _ | refine blk_drew ?_ | refine blk_alloc ?_ _)); refine blk_put (cs := #[.int .i64 ((rd_T52 l1 x19_2).f0), .int .i64 0]) ?_ 1 _ rfl; (with_reducible repeat (first | refine blk_drewN ?_ _ | refine blk_drew ?_ | refine blk_alloc ?_ _)); refine blk_put (cs := #[.int .i64 0, .int .i64 0]) ?_ 0 _ rfl; (with_reducible repeat (first | refine blk_drewN ?_ _ | refine blk_drew ?_ | refine blk_alloc ?_ _)); exact BK118.out⟩
               have n2_ : Aside0 (Below w.heap.size w ((w14.setCell ⟨gb118, 0, none⟩ (.int .i64 ((rd_T52 l1 x19_2).f0))).setCell ⟨gb118, 1, none⟩ (.int .i64 ((rd_T52 l1 x19_2).f1)))) := ⟨bl HB⟩
               (try clear HO_6)
               (try clear BK118)
               (try clear HB)
               generalize ((w14.setCell ⟨gb118, 0, none⟩ (.int .i64 ((rd_T52 l1 x19_2).f0))).setCell ⟨gb118, 1, none⟩ (.int .i64 ((rd_T52 l1 x19_2).f1))) = w23 at n0_ n1_ n2_ ⊢
               have HO_6 := n0_
               have BK118 := n1_
               have HB := n2_
               clear n0_ n1_ n2_
               have n0_ := Aside0.mk (Kd.R_drew HO_6.out)
               have n1_ := Aside0.mk (blk_drew BK118.out)
               have n2_ := Aside0.mk (below_drew1 HB.out)
               clear HO_6
               clear BK118
               clear HB
               have HO_6 := n0_
               have BK118 := n1_
               have HB := n2_
               clear n0_ n1_ n2_
               refine start_ (n := 26) (S := fun w' => w'.cell? ⟨gb118, 0, none⟩ = some (.int .i64 ((rd_T52 l1 x19_2).f0)) ∧ w'.cell? ⟨gb118, 1, none⟩ = some (.int .i64 ((rd_T52 l1 x19_2).f1))) (ds := []) #[false, false, false, false, false, false, false, false, false, false, false, false, false, false, false, false, false, false, false, false, false, false, false, false, false, false] (by kernel_rfl) rfl rfl ⟨(blk_cell BK118.out 0).trans rfl, (blk_cell BK118.out 1).trans rfl⟩ (fun hHeld => ?_); refine with_tabW rib_read.tab7 rib_read.bits7 (fun HT_ HW_ => ?_)
               generalize w23.drew = w24 at HO_6 BK118 HB hHeld ⊢
               refine pr 0 23 HT_ ?_
               refine tr 1 24 HT_ HW_ hHeld ?_
               refine pr 2 25 HT_ ?_
               refine pr 3 26 HT_ ?_
               refine pr 4 27 HT_ ?_
               refine pr 6 29 HT_ ?_
               refine tr 5 28 HT_ HW_ hHeld ?_
               refine tr 7 30 HT_ HW_ hHeld ?_
               refine pr 8 31 HT_ ?_
               refine pr 9 32 HT_ ?_
               refine pr 10 33 HT_ ?_
               refine pr 11 34 HT_ ?_
               refine pr 13 36 HT_ ?_
               refine tr 12 35 HT_ HW_ hHeld ?_
               refine pr 14 37 HT_ ?_
               refine pr 15 38 HT_ ?_
               refine pr 16 39 HT_ ?_
               refine pure_ (i := 17) (N := some 40) (v := undef) (a' := ?_) #[true, true, true, true, true, true, true, true, true, true, true, true, true, true, true, true, true, true, false, false, false, false, false, false, false, false] rfl rfl (any_of HT_.out (by kernel_rfl)) (fun _ _ _ h => h) (Or.inr ⟨by rfl, rfl⟩) ?_ ?_
               rotate_left
               ·simp only [Act.put, List.setIfInBounds_toArray, List.set_cons_zero, List.set_cons_succ, i64_w, i32_w]
                rfl
               refine pure_ (i := 18) (N := some 41) (v := undef) (a' := ?_) #[true, true, true, true, true, true, true, true, true, true, true, true, true, true, true, true, true, true, true, false, false, false, false, false, false, false] rfl rfl (any_of HT_.out (by kernel_rfl)) (fun _ _ _ h => h) (Or.inr ⟨by rfl, rfl⟩) ?_ ?_
               rotate_left
               ·simp only [Act.put, List.setIfInBounds_toArray, List.set_cons_zero, List.set_cons_succ, i64_w, i32_w]
                rfl
               refine pure_ (i := 19) (N := some 42) (v := undef) (a' := ?_) #[true, true, true, true, true, true, true, true, true, true, true, true, true, true, true, true, true, true, true, true, false, false, false, false, false, false] rfl rfl (any_of HT_.out (by kernel_rfl)) (fun _ _ _ h => h) (Or.inr ⟨by rfl, rfl⟩) ?_ ?_
               rotate_left
               ·simp only [Act.put, List.setIfInBounds_toArray, List.set_cons_zero, List.set_cons_succ, i64_w, i32_w]
                rfl
               refine pure_ (i := 20) (N := some 43) (v := undef) (a' := ?_) #[true, true, true, true, true, true, true, true, true, true, true, true, true, true, true, true, true, true, true, true, true, false, false, false, false, false] rfl rfl (any_of HT_.out (by kernel_rfl)) (fun _ _ _ h => h) (Or.inr ⟨by rfl, rfl⟩) ?_ ?_
               rotate_left
               ·simp only [Act.put, List.setIfInBounds_toArray, List.set_cons_zero, List.set_cons_succ, i64_w, i32_w]
                rfl
               refine pure_ (i := 21) (N := some 44) (v := undef) (a' := ?_) #[true, true, true, true, true, true, true, true, true, true, true, true, true, true, true, true, true, true, true, true, true, true, false, false, false, false] rfl rfl (any_of HT_.out (by kernel_rfl)) (fun _ _ _ h => h) (Or.inr ⟨by rfl, rfl⟩) ?_ ?_
               rotate_left
               ·simp only [Act.put, List.setIfInBounds_toArray, List.set_cons_zero, List.set_cons_succ, i64_w, i32_w]
                rfl
               refine pure_ (i := 22) (N := some 45) (v := undef) (a' := ?_) #[true, true, true, true, true, true, true, true, true, true, true, true, true, true, true, true, true, true, true, true, true, true, true, false, false, false] rfl rfl (any_of HT_.out (by kernel_rfl)) (fun _ _ _ h => h) (Or.inr ⟨by rfl, rfl⟩) ?_ ?_
               rotate_left
               ·simp only [Act.put, List.setIfInBounds_toArray, List.set_cons_zero, List.set_cons_succ, i64_w, i32_w]
                rfl
               refine pure_ (i := 23) (N := some 46) (v := undef) (a' := ?_) #[true, true, true, true, true, true, true, true, true, true, true, true, true, true, true, true, true, true, true, true, true, true, true, true, false, false] rfl rfl (any_of HT_.out (by kernel_rfl)) (fun _ _ _ h => h) (Or.inr ⟨by rfl, rfl⟩) ?_ ?_
               rotate_left
               ·simp only [Act.put, List.setIfInBounds_toArray, List.set_cons_zero, List.set_cons_succ, i64_w, i32_w]
                rfl
               refine pure_ (i := 24) (N := some 47) (v := undef) (a' := ?_) #[true, true, true, true, true, true, true, true, true, true, true, true, true, true, true, true, true, true, true, true, true, true, true, true, true, false] rfl rfl (any_of HT_.out (by kernel_rfl)) (fun _ _ _ h => h) (Or.inr ⟨by rfl, rfl⟩) ?_ ?_
               rotate_left
               ·simp only [Act.put, List.setIfInBounds_toArray, List.set_cons_zero, List.set_cons_succ, i64_w, i32_w]
                rfl
               refine pr 25 48 HT_ ?_
               refine dn HT_ ?_
               try go_wp2
               go_meet
               case rel => exact ⟨_, (true), (by first | rfl | (simp; done) | (simp [*]; done)), H', ⟨by have := HJ2.out; have := HK2.out; first | omega | exact Nat.le_refl _⟩, ⟨rl HO_6⟩, ⟨bk BK118⟩, ⟨bl HB⟩⟩
              ·rw [if_neg c22] at H
               have c22b0 : decide (a0 ≤ ((rd_T52 l1 x19_2).f1)) = false := decide_eq_false c22
               clear c22
               by_cases c25 : 0 ≤ ((rd_T52 l1 x19_2).f0)
               ·rw [if_pos c25] at H
                have c25b0 : decide (0 ≤ ((rd_T52 l1 x19_2).f0)) = true := decide_eq_true c25
                clear c25
                by_cases c26 : ((rd_T52 l1 x19_2).f0) < (x6_2.length : Int)
                ·rw [if_pos c26] at H
                 have c26b0 : decide (((rd_T52 l1 x19_2).f0) < (x6_2.length : Int)) = true := decide_eq_true c26
                 clear c26
                 replace H := Option.bind_eq_some_iff.mp H
                 obtain ⟨t120, A270, H⟩ := H
                 replace H : (rib_read.j2 k2 a0 x6_2 l1 (l1.length : Int) x19_2 t120 ((rd_T52 l1 x19_2).f0) ((rd_T52 l1 x19_2).f1)) = some (r1, r2) := H
                 have A27 := Aside0.mk A270
                 clear A270
                 have H' := Aside0.mk H
                 clear H
                 try go_wp2
                 have n0_ : Aside0 (Kd.R (Kd.int .u32) 86 ((w14.setCell ⟨gb118, 0, none⟩ (.int .i64 ((rd_T52 l1 x19_2).f0))).setCell ⟨gb118, 1, none⟩ (.int .i64 ((rd_T52 l1 x19_2).f1))) w.heap.size (fun _ => True) v115 x6_2) := ⟨by (with_reducible repeat (first | apply Kd.R_alloc | apply Kd.R_drewN | apply Kd.R_drew)); exact Kd.R_mono (Kd.R_far (p := ⟨gb118, 1, none⟩) (Kd.R_far (p := ⟨gb118, 0, none⟩) (Kd.R_types HO_6.out BK118.out (by decide)) (fun _ hk => hk.2) (.int .i64 ((rd_T52 l1 x19_2).f0))) (fun _ hk => hk.2) (.int .i64 ((rd_T52 l1 x19_2).f1))) (fun _ hk => trivial)⟩
                 have n1_ : Aside0 (((w14.setCell ⟨gb118, 0, none⟩ (.int .i64 ((rd_T52 l1 x19_2).f0))).setCell ⟨gb118, 1, none⟩ (.int .i64 ((rd_T52 l1 x19_2).f1))).heap[gb118]? = some (.cells #[.int .i64 ((rd_T52 l1 x19_2).f0), .int .i64 ((rd_T52 l1 x19_2).f1)] 52 (0, 0))) := ⟨by (with_reducible repeat (first | refine blk_drewN ?_ _ | refine blk_drew ?_ | refine blk_alloc ?_ _)); refine blk_put (cs := #[.int .i64 ((rd_T52 l1 x19_2).f0), .int .i64 0]) ?_ 1 _ rfl; (with_reducible repeat (first | refine blk_drewN ?_ _ | refine blk_drew ?_ | refine blk_alloc ?_ _)); refine blk_put (cs := #[.int .i64 0, .int .i64 0]) ?_ 0 _ rfl; (with_reducible repeat (first | refine blk_drewN ?_ _ | refine blk_drew ?_ | refine blk_alloc ?_ _)); exact BK118.out⟩
                 have n2_ : Aside0 (Below w.heap.size w ((w14.setCell ⟨gb118, 0, none⟩ (.int .i64 ((rd_T52 l1 x19_2).f0))).setCell ⟨gb118, 1, none⟩ (.int .i64 ((rd_T52 l1 x19_2).f1)))) := ⟨bl HB⟩
                 (try clear HO_6)
                 (try clear BK118)
                 (try clear HB)
                 generalize ((w14.setCell ⟨gb118, 0, none⟩ (.int .i64 ((rd_T52 l1 x19_2).f0))).setCell ⟨gb118, 1, none⟩ (.int .i64 ((rd_T52 l1 x19_2).f1))) = w28 at n0_ n1_ n2_ ⊢
                 have HO_6 := n0_
                 have BK118 := n1_
                 have HB := n2_
                 clear n0_ n1_ n2_
                 have n0_ := Aside0.mk (Kd.R_drew HO_6.out)
                 have n1_ := Aside0.mk (blk_drew BK118.out)
                 have n2_ := Aside0.mk (below_drew1 HB.out)
                 clear HO_6
                 clear BK118
                 clear HB
                 have HO_6 := n0_
                 have BK118 := n1_
                 have HB := n2_
                 clear n0_ n1_ n2_
                 obtain ⟨Ao30, co30, eo30⟩ := Kd.R_slice HO_6.out
                 (first | subst eo30 | (injection eo30 with f1_ f2_ f3_; have f4_ := f1_.symm; have f5_ := f3_.symm; clear f1_ f2_ f3_; subst f4_; subst f5_))
                 have p119 : 0 ≤ (((rd_T52 l1 x19_2).f0) : Int) := ofd
                 have q119 : ((rd_T52 l1 x19_2).f0) < (x6_2.length : Int) := ofd
                 obtain ⟨ad119, e119, hx119_0⟩ := Kd.at_int (Kd.R_reads' HO_6.out).2.2 ((rd_T52 l1 x19_2).f0) p119 q119
                 cases e119
                 replace p119 := eq_true p119
                 replace q119 := eq_true q119
                 refine start_ (n := 26) (S := fun w' => w'.cell? ⟨gb118, 0, none⟩ = some (.int .i64 ((rd_T52 l1 x19_2).f0)) ∧ w'.cell? ⟨gb118, 1, none⟩ = some (.int .i64 ((rd_T52 l1 x19_2).f1)) ∧ w'.cell? (ad119.add (((rd_T52 l1 x19_2).f0)).toNat) = some (.int .u32 (rd x6_2 ((rd_T52 l1 x19_2).f0)))) (ds := []) #[false, false, false, false, false, false, false, false, false, false, false, false, false, false, false, false, false, false, false, false, false, false, false, false, false, false] (by kernel_rfl) rfl rfl ⟨(blk_cell BK118.out 0).trans rfl, (blk_cell BK118.out 1).trans rfl, hx119_0⟩ (fun hHeld => ?_); refine with_tabW rib_read.tab7 rib_read.bits7 (fun HT_ HW_ => ?_)
                 generalize w28.drew = w29 at HO_6 BK118 HB hx119_0 hHeld ⊢
                 refine pr 0 23 HT_ ?_
                 refine tr 1 24 HT_ HW_ hHeld ?_
                 refine pr 2 25 HT_ ?_
                 refine pr 3 26 HT_ ?_
                 refine pr 4 27 HT_ ?_
                 refine pr 6 29 HT_ ?_
                 refine tr 5 28 HT_ HW_ hHeld ?_
                 refine tr 7 30 HT_ HW_ hHeld ?_
                 refine pr 8 31 HT_ ?_
                 refine pr 9 32 HT_ ?_
                 refine pr 10 33 HT_ ?_
                 refine pr 11 34 HT_ ?_
                 refine pr 13 36 HT_ ?_
                 refine tr 12 35 HT_ HW_ hHeld ?_
                 refine pr 14 37 HT_ ?_
                 refine pr 15 38 HT_ ?_
                 refine pr 16 39 HT_ ?_
                 refine pr 17 40 HT_ ?_
                 refine pr 18 41 HT_ ?_
                 refine pr 22 45 HT_ ?_
                 refine tr 19 42 HT_ HW_ hHeld ?_
                 refine pr 20 43 HT_ ?_
                 refine tr 21 44 HT_ HW_ hHeld ?_
                 refine tr 23 46 HT_ HW_ hHeld ?_
                 refine on 24 (some 47) HT_ (fun K hK => ?_)
                 refine gS Try.func60 #[.int .u32 (rd x6_2 ((rd_T52 l1 x19_2).f0)), .int .i64 ((rd_T52 l1 x19_2).f1)] ?_
                 with_reducible refine (rib_set_has.calls (rd x6_2 ((rd_T52 l1 x19_2).f0)) ((rd_T52 l1 x19_2).f1) t120 _ A27.out).mono ?_
                 rintro e w' ⟨rfl, ⟨nd, rfl⟩⟩
                 refine ⟨_, rfl, ?_⟩
                 refine hK.out _ _ ⟨(blk_cell BK118.out 0).trans rfl, (blk_cell BK118.out 1).trans rfl, hHeld.2.2⟩ (fun hHeld => ?_)
                 clear hK K
                 refine nr (some 47) ?_
                 refine pr 25 48 HT_ ?_
                 refine dn HT_ ?_
                 try go_wp2
                 go_meet
                 case rel => exact ⟨_, (t120), (by first | rfl | (simp; done) | (simp [*]; done)), H', ⟨by have := HJ2.out; have := HK2.out; first | omega | exact Nat.le_refl _⟩, ⟨rl HO_6⟩, ⟨bk BK118⟩, ⟨bl HB⟩⟩
                ·rw [if_neg c26] at H
                 exact absurd H (by simp)
               ·rw [if_neg c25] at H
                exact absurd H (by simp)
           case rest =>
            clear HC13
            try clear c1
            try clear p1
            try clear q1
            try clear hx1
            try clear c2
            try clear p2
            try clear c6
            try clear p11
            try clear q11
            try clear hx11
            try clear c19
            try clear c19b0
            try clear c22
            try clear c22b0
            try clear c25
            try clear c25b0
            try clear c26
            try clear c26b0
            try clear hx119_0
            try clear p119
            try clear q119
            obtain ⟨kq, x48_12, rfl, HA, HJ12, HO_6, BK118, HB⟩ := hcut
            cases kq with
            | zero => exact absurd HA.out (by simp [rib_read.j2])
            | succ kj12 =>
             have H := HA.out
             clear HA
             simp only [rib_read.j2] at H
             by_cases c31 : x48_12 = true
             ·subst c31
              have H1 : (some (([] : List Int), false)) = some (r1, r2) := by rw [if_pos rfl] at H; exact H
              clear H
              have H := H1
              clear H1
              simp only [Option.some.injEq, Prod.mk.injEq] at H
              obtain ⟨rfl, rfl⟩ := H
              go_wp2
              go_ret2
              exact ⟨_, by first | rfl | (simp [errW_none, errW_some] <;> rfl) | (simp [*, errW_none, errW_some] <;> rfl), by first | exact Kd.R_nil _ _ _ _ _ | exact Kd.N_nil _ _ _ _ _ | exact Kd.V_nil _ _ _ _ _ | exact Kd.Q_nil _ _ _ _ _ | exact Kd.S_nil _ _ _ _ _, by repeat (first | (with_reducible first | exact HB.out | apply below_alloc | apply pw_below_drewN | apply below_drew1 | refine below_set ?_ GE118.out) | exact HB.out)⟩
             ·replace c31 := Bool.eq_false_iff.mpr c31
              subst c31
              have H1 : (if 0 ≤ ((rd_T52 l1 x19_2).f0) then (if ((rd_T52 l1 x19_2).f0) < (x6_2.length : Int) then ((rib_one.f ((rd_T52 l1 x19_2).f1)).bind fun t122 => ((some (x6_2.set (((rd_T52 l1 x19_2).f0) : Int).toNat (Go.bits .or .u32 (rd x6_2 ((rd_T52 l1 x19_2).f0)) t122) : List Int)).bind fun y123 => (if 0 ≤ ((rd_T52 l1 x19_2).f1) then (if ((rd_T52 l1 x19_2).f1) < (x6_2.length : Int) then ((rib_one.f ((rd_T52 l1 x19_2).f0)).bind fun t125 => (rib_read.l0 kj12 a0 (y123.set (((rd_T52 l1 x19_2).f1) : Int).toNat (Go.bits .or .u32 (rd y123 ((rd_T52 l1 x19_2).f1)) t125)) l1 (l1.length : Int) (wrap64 (x19_2 + 1)))) else (none)) else (none)))) else (none)) else (none)) = some (r1, r2) := by rw [if_neg (show ¬ (false = true) by decide)] at H; exact H
              clear H
              have H := H1
              clear H1
              by_cases c32 : 0 ≤ ((rd_T52 l1 x19_2).f0)
              ·rw [if_pos c32] at H
               have c32b0 : decide (0 ≤ ((rd_T52 l1 x19_2).f0)) = true := decide_eq_true c32
               clear c32
               by_cases c33 : ((rd_T52 l1 x19_2).f0) < (x6_2.length : Int)
               ·rw [if_pos c33] at H
                have c33b0 : decide (((rd_T52 l1 x19_2).f0) < (x6_2.length : Int)) = true := decide_eq_true c33
                clear c33
                replace H := Option.bind_eq_some_iff.mp H
                obtain ⟨t122, A340, H⟩ := H
                replace H : ((some (x6_2.set (((rd_T52 l1 x19_2).f0) : Int).toNat (Go.bits .or .u32 (rd x6_2 ((rd_T52 l1 x19_2).f0)) t122) : List Int)).bind fun y123 => (if 0 ≤ ((rd_T52 l1 x19_2).f1) then (if ((rd_T52 l1 x19_2).f1) < (x6_2.length : Int) then ((rib_one.f ((rd_T52 l1 x19_2).f0)).bind fun t125 => (rib_read.l0 kj12 a0 (y123.set (((rd_T52 l1 x19_2).f1) : Int).toNat (Go.bits .or .u32 (rd y123 ((rd_T52 l1 x19_2).f1)) t125)) l1 (l1.length : Int) (wrap64 (x19_2 + 1)))) else (none)) else (none))) = some (r1, r2) := H
                have A34 := Aside0.mk A340
                clear A340
                obtain ⟨y123, hy123⟩ : ∃ y_ : List Int, y_ = (x6_2.set (((rd_T52 l1 x19_2).f0) : Int).toNat (Go.bits .or .u32 (rd x6_2 ((rd_T52 l1 x19_2).f0)) t122)) := ⟨_, rfl⟩
                replace H : (if 0 ≤ ((rd_T52 l1 x19_2).f1) then (if ((rd_T52 l1 x19_2).f1) < (x6_2.length : Int) then ((rib_one.f ((rd_T52 l1 x19_2).f0)).bind fun t125 => (rib_read.l0 kj12 a0 (y123.set (((rd_T52 l1 x19_2).f1) : Int).toNat (Go.bits .or .u32 (rd y123 ((rd_T52 l1 x19_2).f1)) t125)) l1 (l1.length : Int) (wrap64 (x19_2 + 1)))) else (none)) else (none)) = some (r1, r2) := by first | (rw [hy123]; with_reducible exact H) | (have H2_ := (Option.bind_some _ _).symm.trans H; rw [hy123]; with_reducible exact H2_) | (have H2_ := (Option.bind_some _ _).symm.trans H; with_reducible exact H2_) | with_reducible exact H | (rw [hy123]; exact H) | exact H
                have Ny123 := Aside0.mk hy123
                clear hy123
                by_cases c36 : 0 ≤ ((rd_T52 l1 x19_2).f1)
                ·rw [if_pos c36] at H
                 have c36b0 : decide (0 ≤ ((rd_T52 l1 x19_2).f1)) = true := decide_eq_true c36
                 clear c36
                 by_cases c37 : ((rd_T52 l1 x19_2).f1) < (x6_2.length : Int)
                 ·rw [if_pos c37] at H
                  have c37b0 : decide (((rd_T52 l1 x19_2).f1) < (x6_2.length : Int)) = true := decide_eq_true c37
                  clear c37
                  replace H := Option.bind_eq_some_iff.mp H
                  obtain ⟨t125, A380, H⟩ := H
                  replace H : (rib_read.l0 kj12 a0 (y123.set (((rd_T52 l1 x19_2).f1) : Int).toNat (Go.bits .or .u32 (rd y123 ((rd_T52 l1 x19_2).f1)) t125)) l1 (l1.length : Int) (wrap64 (x19_2 + 1))) = some (r1, r2) := H
                  have A38 := Aside0.mk A380
                  clear A380
                  obtain ⟨y126, hy126⟩ : ∃ y_ : List Int, y_ = (y123.set (((rd_T52 l1 x19_2).f1) : Int).toNat (Go.bits .or .u32 (rd y123 ((rd_T52 l1 x19_2).f1)) t125)) := ⟨_, rfl⟩
                  replace H : (rib_read.l0 kj12 a0 y126 l1 (l1.length : Int) (wrap64 (x19_2 + 1))) = some (r1, r2) := by first | (rw [hy126]; with_reducible exact H) | (have H2_ := (Option.bind_some _ _).symm.trans H; rw [hy126]; with_reducible exact H2_) | (have H2_ := (Option.bind_some _ _).symm.trans H; with_reducible exact H2_) | with_reducible exact H | (rw [hy126]; exact H) | exact H
                  have Ny126 := Aside0.mk hy126
                  clear hy126
                  have H' := Aside0.mk H
                  clear H
                  try go_wp2
                  have n0_ := Aside0.mk (Kd.R_drew HO_6.out)
                  have n1_ := Aside0.mk (blk_drew BK118.out)
                  have n2_ := Aside0.mk (below_drew1 HB.out)
                  clear HO_6
                  clear BK118
                  clear HB
                  have HO_6 := n0_
                  have BK118 := n1_
                  have HB := n2_
                  clear n0_ n1_ n2_
                  obtain ⟨Ao41, co41, eo41⟩ := Kd.R_slice HO_6.out
                  (first | subst eo41 | (injection eo41 with f1_ f2_ f3_; have f4_ := f1_.symm; have f5_ := f3_.symm; clear f1_ f2_ f3_; subst f4_; subst f5_))
                  have p121 : 0 ≤ (((rd_T52 l1 x19_2).f0) : Int) := ofd
                  have q121 : ((rd_T52 l1 x19_2).f0) < (x6_2.length : Int) := ofd
                  obtain ⟨ad121, e121, hx121_0⟩ := Kd.at_int (Kd.R_reads' HO_6.out).2.2 ((rd_T52 l1 x19_2).f0) p121 q121
                  cases e121
                  replace p121 := eq_true p121
                  replace q121 := eq_true q121
                  refine start_ (n := 11) (S := fun w' => w'.cell? ⟨gb118, 0, none⟩ = some (.int .i64 ((rd_T52 l1 x19_2).f0)) ∧ w'.cell? ⟨gb118, 1, none⟩ = some (.int .i64 ((rd_T52 l1 x19_2).f1)) ∧ w'.cell? (ad121.add (((rd_T52 l1 x19_2).f0)).toNat) = some (.int .u32 (rd x6_2 ((rd_T52 l1 x19_2).f0)))) (ds := [10]) #[false, false, false, false, false, false, false, false, false, false, false] (by kernel_rfl) rfl rfl ⟨(blk_cell BK118.out 0).trans rfl, (blk_cell BK118.out 1).trans rfl, hx121_0⟩ (fun hHeld => ?_); refine with_tabW rib_read.tab9 rib_read.bits9 (fun HT_ HW_ => ?_)
                  generalize wc.drew = w40 at HO_6 BK118 HB hx121_0 hHeld ⊢
                  refine pr 0 49 HT_ ?_
                  refine pr 1 50 HT_ ?_
                  refine pr 5 54 HT_ ?_
                  refine tr 2 51 HT_ HW_ hHeld ?_
                  refine pr 3 52 HT_ ?_
                  refine tr 4 53 HT_ HW_ hHeld ?_
                  refine tr 6 55 HT_ HW_ hHeld ?_
                  refine on 7 (some 56) HT_ (fun K hK => ?_)
                  refine gS Try.func67 #[.int .i64 ((rd_T52 l1 x19_2).f1)] ?_
                  with_reducible refine (rib_one.calls ((rd_T52 l1 x19_2).f1) t122 _ A34.out).mono ?_
                  rintro e w' ⟨rfl, ⟨nd, rfl⟩⟩
                  refine ⟨_, rfl, ?_⟩
                  have m0_ := Aside0.mk (Kd.R_drewN HO_6.out nd); have m1_ := Aside0.mk (blk_drewN BK118.out nd); have m2_ := Aside0.mk (pw_below_drewN HB.out nd); have hHeld := And.intro (held_drewN hHeld.1 nd) (And.intro (held_drewN hHeld.2.1 nd) (held_drewN hHeld.2.2 nd)); clear HO_6 BK118 HB; have HO_6 := m0_; have BK118 := m1_; have HB := m2_; clear m0_ m1_ m2_; generalize World.drewN w40 nd = w40 at HO_6 BK118 HB hHeld ⊢
                  have p35 : 0 ≤ (((rd_T52 l1 x19_2).f0) : Int) := ofd
                  have q35 : (((rd_T52 l1 x19_2).f0) : Int) < ((x6_2.length : Int) : Int) := ofd
                  obtain ⟨go35, co35, eo35, gb35, gl35, cl35, HG35⟩ := Kd.R_form HO_6.out (by omega)
                  (first | cases eo35 | (injection eo35 with ea_ en_ ec_; (first | subst ea_ | (injection ea_ with ea_; subst ea_)); subst ec_; clear en_))
                  have GB35 := Aside0.mk gb35
                  have GG35 := Aside0.mk HG35
                  clear gb35 gl35 HG35
                  (first | simp only [add_plain] at hx121_0 | skip)
                  obtain ⟨hx35_0, hf35_0⟩ := Kd.R_celln 0 HO_6.out (((rd_T52 l1 x19_2).f0) : Int) p35 q35
                  replace p35 := eq_true p35
                  replace q35 := eq_true q35
                  have HP42 := Kd.R_putn HO_6.out (((rd_T52 l1 x19_2).f0) : Int) (Go.bits .or .u32 (rd x6_2 ((rd_T52 l1 x19_2).f0)) t122)
                  rw [← Ny123.out] at HP42
                  have HQ42 := Aside0.mk HP42
                  clear HP42
                  refine hK.out _ _ ⟨(blk_cell BK118.out 0).trans rfl, (blk_cell BK118.out 1).trans rfl, hHeld.2.2⟩ (fun hHeld => ?_)
                  clear hK K
                  refine nr (some 56) ?_
                  refine pr 8 57 HT_ ?_
                  refine pr 9 58 HT_ ?_
                  refine la 10 (none) HT_ (fun K hK => ?_)
                  refine sk ?_
                  refine hK.out _ _ ?_
                  clear hK K
                  refine dn HT_ ?_
                  try go_wp2
                  have n0_ : Aside0 (Kd.R (Kd.int .u32) 86 (w40.setCell ⟨go35, (((rd_T52 l1 x19_2).f0) : Int).toNat, none⟩ (.int .u32 (Go.bits .or .u32 (rd x6_2 ((rd_T52 l1 x19_2).f0)) t122))) w.heap.size (fun _ => True) (.slice (some ⟨go35, 0, none⟩) x6_2.length co41) y123) := ⟨rl HQ42⟩
                  have n1_ : Aside0 ((w40.setCell ⟨go35, (((rd_T52 l1 x19_2).f0) : Int).toNat, none⟩ (.int .u32 (Go.bits .or .u32 (rd x6_2 ((rd_T52 l1 x19_2).f0)) t122))).heap[gb118]? = some (.cells #[.int .i64 ((rd_T52 l1 x19_2).f0), .int .i64 ((rd_T52 l1 x19_2).f1)] 52 (0, 0))) := ⟨by (with_reducible repeat (first | refine blk_drewN ?_ _ | refine blk_drew ?_ | refine blk_alloc ?_ _)); refine blk_far ?_ (by have h_ := Kd.R_ne HO_6.out BK118.out (by decide); intro e_; exact h_ (by rw [e_]; rfl)) _; (with_reducible repeat (first | refine blk_drewN ?_ _ | refine blk_drew ?_ | refine blk_alloc ?_ _)); exact BK118.out⟩
                  have n2_ : Aside0 (Below w.heap.size w (w40.setCell ⟨go35, (((rd_T52 l1 x19_2).f0) : Int).toNat, none⟩ (.int .u32 (Go.bits .or .u32 (rd x6_2 ((rd_T52 l1 x19_2).f0)) t122)))) := ⟨bl HB⟩
                  (try clear HO_6)
                  (try clear BK118)
                  (try clear HB)
                  generalize (w40.setCell ⟨go35, (((rd_T52 l1 x19_2).f0) : Int).toNat, none⟩ (.int .u32 (Go.bits .or .u32 (rd x6_2 ((rd_T52 l1 x19_2).f0)) t122))) = w43 at n0_ n1_ n2_ ⊢
                  have HO_6 := n0_
                  have BK118 := n1_
                  have HB := n2_
                  clear n0_ n1_ n2_
                  (try (rw [drewN_self w43]; generalize hq_ : World.drewN w43 _ = w43; have n0_ : Aside0 (Kd.R (Kd.int .u32) 86 w43 w.heap.size (fun _ => True) (.slice (some ⟨go35, 0, none⟩) x6_2.length co41) y123) := ⟨by rw [← hq_]; exact (rl HO_6)⟩; have n1_ : Aside0 (w43.heap[gb118]? = some (.cells #[.int .i64 ((rd_T52 l1 x19_2).f0), .int .i64 ((rd_T52 l1 x19_2).f1)] 52 (0, 0))) := ⟨by rw [← hq_]; exact (bk BK118)⟩; have n2_ : Aside0 (Below w.heap.size w w43) := ⟨by rw [← hq_]; exact (bl HB)⟩; clear HO_6 BK118 HB hq_; have HO_6 := n0_; have BK118 := n1_; have HB := n2_; clear n0_ n1_ n2_))
                  have n0_ := Aside0.mk (Kd.R_drew HO_6.out)
                  have n1_ := Aside0.mk (blk_drew BK118.out)
                  have n2_ := Aside0.mk (below_drew1 HB.out)
                  clear HO_6
                  clear BK118
                  clear HB
                  have HO_6 := n0_
                  have BK118 := n1_
                  have HB := n2_
                  clear n0_ n1_ n2_
                  have p124 : 0 ≤ (((rd_T52 l1 x19_2).f1) : Int) := ofd
                  have q124 : ((rd_T52 l1 x19_2).f1) < (y123.length : Int) := (by have h_ : (((rd_T52 l1 x19_2).f1) : Int) < ((x6_2.length : Int) : Int) := ofd; first | (have e_ := (Kd.R_reads' HO_6.out).1; omega) | simpa only [Ny123.out, List.length_set] using h_)
                  have ql124 : ((((rd_T52 l1 x19_2).f1) : Int) < ((x6_2.length : Int) : Int)) = True := eq_true (ofd)
                  obtain ⟨ad124, e124, hx124_0⟩ := Kd.at_int (Kd.R_reads' HO_6.out).2.2 ((rd_T52 l1 x19_2).f1) p124 q124
                  obtain rfl : (⟨go35, 0, none⟩ : Addr) = ad124 := (by injection e124)
                  (first | simp only [add_plain] at hx124_0 | simp only [add_at] at hx124_0 | simp only [Addr.add, Nat.zero_add] at hx124_0 | skip)
                  replace p124 := eq_true p124
                  replace q124 := eq_true q124
                  refine start_ (n := 11) (S := fun w' => w'.cell? ⟨gb118, 0, none⟩ = some (.int .i64 ((rd_T52 l1 x19_2).f0)) ∧ w'.cell? ⟨gb118, 1, none⟩ = some (.int .i64 ((rd_T52 l1 x19_2).f1)) ∧ w'.cell? ⟨go35, (((rd_T52 l1 x19_2).f1)).toNat, none⟩ = some (.int .u32 (rd y123 ((rd_T52 l1 x19_2).f1)))) (ds := [10]) #[false, false, false, false, false, false, false, false, false, false, false] (by kernel_rfl) rfl rfl ⟨(blk_cell BK118.out 0).trans rfl, (blk_cell BK118.out 1).trans rfl, hx124_0⟩ (fun hHeld => ?_); refine with_tabW rib_read.tab10 rib_read.bits10 (fun HT_ HW_ => ?_)
                  generalize w43.drew = w44 at HO_6 BK118 HB HQ42 hx124_0 hHeld ⊢
                  refine pr 0 59 HT_ ?_
                  refine pr 1 60 HT_ ?_
                  refine pr 5 64 HT_ ?_
                  refine tr 2 61 HT_ HW_ hHeld ?_
                  refine pr 3 62 HT_ ?_
                  refine tr 4 63 HT_ HW_ hHeld ?_
                  refine tr 6 65 HT_ HW_ hHeld ?_
                  refine on 7 (some 66) HT_ (fun K hK => ?_)
                  refine gS Try.func67 #[.int .i64 ((rd_T52 l1 x19_2).f0)] ?_
                  with_reducible refine (rib_one.calls ((rd_T52 l1 x19_2).f0) t125 _ A38.out).mono ?_
                  rintro e w' ⟨rfl, ⟨nd, rfl⟩⟩
                  refine ⟨_, rfl, ?_⟩
                  have m0_ := Aside0.mk (Kd.R_drewN HO_6.out nd); have m1_ := Aside0.mk (blk_drewN BK118.out nd); have m2_ := Aside0.mk (pw_below_drewN HB.out nd); have hHeld := And.intro (held_drewN hHeld.1 nd) (And.intro (held_drewN hHeld.2.1 nd) (held_drewN hHeld.2.2 nd)); clear HO_6 BK118 HB; have HO_6 := m0_; have BK118 := m1_; have HB := m2_; clear m0_ m1_ m2_; generalize World.drewN w44 nd = w44 at HO_6 BK118 HB hHeld ⊢
                  have p39 : 0 ≤ (((rd_T52 l1 x19_2).f1) : Int) := ofd
                  have q39 : (((rd_T52 l1 x19_2).f1) : Int) < ((x6_2.length : Int) : Int) := ofd
                  obtain ⟨hx39_0, hf39_0⟩ := Kd.R_celln 0 HO_6.out (((rd_T52 l1 x19_2).f1) : Int) p39 q39
                  replace p39 := eq_true p39
                  replace q39 := eq_true q39
                  have HP45 := Kd.R_putn HO_6.out (((rd_T52 l1 x19_2).f1) : Int) (Go.bits .or .u32 (rd y123 ((rd_T52 l1 x19_2).f1)) t125)
                  rw [← Ny126.out] at HP45
                  have HQ45 := Aside0.mk HP45
                  clear HP45
                  refine hK.out _ _ ⟨(blk_cell BK118.out 0).trans rfl, (blk_cell BK118.out 1).trans rfl, hHeld.2.2⟩ (fun hHeld => ?_)
                  clear hK K
                  refine nr (some 66) ?_
                  refine pr 8 67 HT_ ?_
                  refine pr 9 68 HT_ ?_
                  refine la 10 (none) HT_ (fun K hK => ?_)
                  refine sk ?_
                  refine hK.out _ _ ?_
                  clear hK K
                  refine dn HT_ ?_
                  try go_wp2
                  go_roundg kj12
                  case measure => have := HJ2.out; have := HK2.out; have := HJ12.out; omega
                  case rel => exact ⟨(y126), (wrap64 (x19_2 + 1)), (by first | rfl | (simp; done) | (simp [*]; done)), H', ⟨by have := HJ2.out; have := HK2.out; have := HJ12.out; omega⟩, ⟨rl HQ45⟩, ⟨bl HB⟩⟩
                 ·rw [if_neg c37] at H
                  exact absurd H (by simp)
                ·rw [if_neg c36] at H
                 exact absurd H (by simp)
               ·rw [if_neg c33] at H
                exact absurd H (by simp)
              ·rw [if_neg c32] at H
               exact absurd H (by simp)
          ·rw [if_neg c12] at H
           exact absurd H (by simp)
         ·rw [if_neg c11] at H
          exact absurd H (by simp)
        ·rw [if_neg c10] at H
         have c10b0 : decide (x19_2 < (l1.length : Int)) = false := decide_eq_false c10
         clear c10
         simp only [Option.some.injEq, Prod.mk.injEq] at H
         obtain ⟨rfl, rfl⟩ := H
         go_wp2
         go_ret2
         exact ⟨_, by first | rfl | (simp [errW_none, errW_some] <;> rfl) | (simp [*, errW_none, errW_some] <;> rfl), by (with_reducible repeat (first | apply Kd.R_alloc | apply Kd.R_drewN | apply Kd.R_drew)); exact HO_6.out, by repeat (first | (with_reducible first | exact HB.out | apply below_alloc | apply pw_below_drewN | apply below_drew1) | exact HB.out)⟩
     ·rw [if_neg c7] at H
      exact absurd H (by simp)
    ·rw [if_neg c6] at H
     exact absurd H (by simp)
end Go.Proofs.Ytdpolfflemocaaa.Own

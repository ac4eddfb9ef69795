/- The declarations of Lxx19 that the claim Qi needs. -/
import Derived.Test.YtdldfdcedjmneaaQiTkP
import Derived.Test.YtdldfdcedjmneaaQiLxx0
namespace Go.Proofs.Ytdldfdcedjmneaa.Lx
open Go.RowKit Go.Proofs.Ytdldfdcedjmneaa.Own Go.Proofs.YtdldfdcedjmneaaW.PrintWords Go.Proofs.YtdldfdcedjmneaaW.PrintLast Go.Proofs.YtdldfdcedjmneaaW.PrintMore
attribute [local go_sem] max2_int min2_int max_two min_two max_three min_three max_four min_four
set_option linter.unusedVariables false
set_option linter.unusedSimpArgs false
def gamplaw05_few.l0 : Nat → Int → Int → List (List Int) → Int → List (List Int) → Option (Int × (List (List Int)))
  | 0, _, _, _, _, _ => none
  | k + 1, x4, x510000, x510001, x512000, x512001 => if x4 < (x510001.length : Int) then (if x4 < 30 then ((some (([] : List Int) : List Int)).bind fun y512 => (if 0 ≤ x4 then (if 0 ≤ (mn ((rd_L1 x510001 x4).length : Int) 9) then (if (mn ((rd_L1 x510001 x4).length : Int) 9) ≤ ((rd_L1 x510001 x4).length : Int) then (if y512.length + ((rd_L1 x510001 x4).take ((mn ((rd_L1 x510001 x4).length : Int) 9) : Int).toNat).length < 17592186044416 then (if x512001.length < 5864062014805 then (gamplaw05_few.l0 k (wrap64 (x4 + 1)) x510000 x510001 x512000 (x512001 ++ [(y512 ++ ((rd_L1 x510001 x4).take ((mn ((rd_L1 x510001 x4).length : Int) 9) : Int).toNat))])) else (none)) else (none)) else (none)) else (none)) else (none))) else (some (x512000, x512001))) else (some (x512000, x512001))
def gamplaw05_few.f (k : Nat) (a0_0 : Int) (l0_1 : List (List Int)) : Option (Int × (List (List Int))) := gamplaw05_few.l0 k 0 a0_0 l0_1 a0_0 ([] : List (List Int))
def gamplaw05_few.T5 : Bool × List (List Nat × List Nat) := (true, [([], []), ([0], [0]), ([], []), ([], []), ([3], [3]), ([], []), ([4, 5], [4, 5]), ([6], [6]), ([], []), ([8], [8]), ([], []), ([9, 10], [9, 10]), ([11], [11]), ([12], [12]), ([13], [13]), ([7, 14], [7, 14]), ([2, 15], [2, 15]), ([16], [16]), ([1, 17, 16], [1, 17]), ([0, 1, 2, 3, 4, 5, 6, 7, 8, 9, 10, 11, 12, 13, 14, 15, 16, 17, 18], []), ([19, 18, 18, 0, 1, 2, 3, 4, 5, 6, 7, 8, 9, 10, 11, 12, 13, 14, 15, 16, 17, 18], [18, 19])])
def gamplaw05_few.B5 : List Nat := [0, 1, 0, 0, 8, 0, 56, 120, 0, 256, 0, 1792, 3840, 7936, 16128, 32760, 65532, 131068, 262143, 524287, 1048575]
theorem gamplaw05_few.tab5 : rtab .any (opsOf Try.f49 5) = gamplaw05_few.T5 := by kernel_rfl
theorem gamplaw05_few.bits5 : waitsOk gamplaw05_few.T5.2 gamplaw05_few.B5 = true := by kernel_rfl
set_option maxHeartbeats 8000000 in
set_option maxRecDepth 100000 in
theorem gamplaw05_few.calls (k : Nat) (a0_0 : Int) (A0_1 : Option Addr) (c0_1 : Nat) (l0_1 : List (List Int)) (r1 : Int) (r2 : List (List Int)) (w : World) (hr0_1 : Kd.C (Kd.slice 3 (Kd.int .i64)) w A0_1 l0_1.length l0_1) (hc0_1 : l0_1.length ≤ c0_1) (h : gamplaw05_few.f k a0_0 l0_1 = some (r1, r2)) :
  Calls Try.prog 49 #[.agg #[.int .i64 a0_0, .slice A0_1 l0_1.length c0_1]] w fun e w' => ∃ v1_ : Value, e = .returned (.agg #[.int .i64 r1, v1_]) ∧ Kd.S (Kd.slice 3 (Kd.int .i64)) 22 w' w.heap.size (fun _ => True) v1_ r2 ∧ Below w.heap.size w w' := by
 have hu26 := Try.underlying26
 have HR0_1 := Aside0.mk hr0_1
 have HC0_1 := Aside0.mk hc0_1
 clear hr0_1 hc0_1
 have HB := Aside0.mk (Below.refl w.heap.size w)
 have H : (gamplaw05_few.l0 k 0 a0_0 l0_1 a0_0 ([] : List (List Int))) = some (r1, r2) := h
 clear h
 have H' := Aside0.mk H
 clear H
 go_enter Try.func49, Try.ntmps49
 go_wp2_with (first | ((with_reducible refine gate_dst (N := 1) rfl ?_); refine box_event ?hg (N := 1) ?hd (cs := #[.int .i64 a0_0, .slice A0_1 l0_1.length c0_1]) (t := 26) ?hr ?_; (case hd => rfl); (case hg => rfl); (case hr => first | (go_simp; done) | (go_simp; rfl)); intro gb509 hg w2 hbox hb; have n0_ := Aside0.mk (below_step (bl HB) hb); have n1_ := Aside0.mk (hbox); have n2_ := Aside0.mk ((by rw [hg]; exact (below_size (bl HB)) : w.heap.size ≤ gb509)); have n3_ := Aside0.mk ((by rw [hg]; exact (below_size (bl HB)) : w.heap.size ≤ gb509)); clear HB; have HB := n0_; have BK509 := n1_; have GW509 := n2_; have GE509 := n3_; clear n0_ n1_ n2_ n3_; clear hb hbox hg) | ((with_reducible refine gate_dst (N := 2) rfl ?_); refine box_event ?hg (N := 2) ?hd (cs := #[.int .i64 0, .slice none 0 0]) (t := 26) ?hr ?_; (case hd => rfl); (case hg => rfl); (case hr => first | (go_simp; done) | (go_simp; rfl)); intro gb510 hg w3 hbox hb; have n0_ := Aside0.mk (blk_below (g := gb509) (o := .cells #[.int .i64 a0_0, .slice A0_1 l0_1.length c0_1] 26 (0, 0)) (bk BK509) hb); have n1_ := Aside0.mk (below_step (bl HB) hb); have n2_ := Aside0.mk (hbox); have n3_ := Aside0.mk ((by rw [hg]; exact (below_size (bl HB)) : w.heap.size ≤ gb510)); have n4_ := Aside0.mk ((by rw [hg]; exact (below_size (bl HB)) : w.heap.size ≤ gb510)); have n5_ := Aside0.mk ((by rw [hg]; exact Nat.ne_of_lt (blk_lt (g := gb509) (o := .cells #[.int .i64 a0_0, .slice A0_1 l0_1.length c0_1] 26 (0, 0)) (bk BK509)) : gb509 ≠ gb510)); have n6_ := Aside0.mk ((by rw [hg]; exact Nat.ne_of_gt (blk_lt (g := gb509) (o := .cells #[.int .i64 a0_0, .slice A0_1 l0_1.length c0_1] 26 (0, 0)) (bk BK509)) : gb510 ≠ gb509)); clear BK509; clear HB; have BK509 := n0_; have HB := n1_; have BK510 := n2_; have GW510 := n3_; have GE510 := n4_; have NB509_510 := n5_; have NB510_509 := n6_; clear n0_ n1_ n2_ n3_ n4_ n5_ n6_; clear hb hbox hg; have hnb4 := NB509_510.out; have hnc4 := NB510_509.out; have hcz5_0 : w3.cell? ⟨gb509, 0, none⟩ = some (.int .i64 a0_0) := (blk_cell BK509.out 0).trans rfl; have hcz5_1 : w3.cell? ⟨gb509, 1, none⟩ = some (.slice A0_1 l0_1.length c0_1) := (blk_cell BK509.out 1).trans rfl; have hfz5_0 := blk_frozen BK509.out 0; have hfz5_1 := blk_frozen BK509.out 1) | ((with_reducible refine gate_dst (N := 3) rfl ?_); refine box_event ?hg (N := 3) ?hd (cs := #[.int .i64 0, .slice none 0 0]) (t := 26) ?hr ?_; (case hd => rfl); (case hg => rfl); (case hr => first | (go_simp; done) | (go_simp; rfl)); intro gb511 hg w6 hbox hb; have n0_ := Aside0.mk (blk_below (g := gb509) (o := .cells #[.int .i64 a0_0, .slice A0_1 l0_1.length c0_1] 26 (0, 0)) (bk BK509) hb); have n1_ := Aside0.mk (blk_below (g := gb510) (o := .cells #[.int .i64 0, .slice none 0 0] 26 (0, 0)) (bk BK510) hb); have n2_ := Aside0.mk (below_step (bl HB) hb); have n3_ := Aside0.mk (hbox); have n4_ := Aside0.mk ((by rw [hg]; exact (below_size (bl HB)) : w.heap.size ≤ gb511)); have n5_ := Aside0.mk ((by rw [hg]; exact (below_size (bl HB)) : w.heap.size ≤ gb511)); have n6_ := Aside0.mk ((by rw [hg]; exact Nat.ne_of_lt (blk_lt (g := gb509) (o := .cells #[.int .i64 a0_0, .slice A0_1 l0_1.length c0_1] 26 (0, 0)) (bk BK509)) : gb509 ≠ gb511)); have n7_ := Aside0.mk ((by rw [hg]; exact Nat.ne_of_gt (blk_lt (g := gb509) (o := .cells #[.int .i64 a0_0, .slice A0_1 l0_1.length c0_1] 26 (0, 0)) (bk BK509)) : gb511 ≠ gb509)); have n8_ := Aside0.mk ((by rw [hg]; exact Nat.ne_of_lt (blk_lt (g := gb510) (o := .cells #[.int .i64 0, .slice none 0 0] 26 (0, 0)) (bk BK510)) : gb510 ≠ gb511)); have n9_ := Aside0.mk ((by rw [hg]; exact Nat.ne_of_gt (blk_lt (g := gb510) (o := .cells #[.int .i64 0, .slice none 0 0] 26 (0, 0)) (bk BK510)) : gb511 ≠ gb510)); clear BK509; clear BK510; clear HB; have BK509 := n0_; have BK510 := n1_; have HB := n2_; have BK511 := n3_; have GW511 := n4_; have GE511 := n5_; have NB509_511 := n6_; have NB511_509 := n7_; have NB510_511 := n8_; have NB511_510 := n9_; clear n0_ n1_ n2_ n3_ n4_ n5_ n6_ n7_ n8_ n9_; clear hb hbox hg; have hnb7 := NB511_509.out; have hnc7 := NB509_511.out; have hnb8 := NB511_510.out; have hnc8 := NB510_511.out; have hcz9_0 : w6.cell? ⟨gb511, 0, none⟩ = some (.int .i64 0) := (blk_cell BK511.out 0).trans rfl; have hcz9_1 : w6.cell? ⟨gb511, 1, none⟩ = some (.slice none 0 0) := (blk_cell BK511.out 1).trans rfl; have hfz9_0 := blk_frozen BK511.out 0; have hfz9_1 := blk_frozen BK511.out 1))
 go_loopg [4] k (fun kq v4 w' => ∃ (x4_1 : Int) (x512001_1 : List (List Int)) (u512001 : Value), v4 = .int .i64 x4_1 ∧ Aside0 (gamplaw05_few.l0 kq x4_1 a0_0 l0_1 a0_0 x512001_1 = some (r1, r2)) ∧ Aside0 (kq ≤ k) ∧ Aside0 (Kd.S (Kd.slice 3 (Kd.int .i64)) 22 w' w.heap.size (fun _ => True) u512001 x512001_1) ∧ Aside0 (w'.heap[gb509]? = some (.cells #[.int .i64 a0_0, (.slice A0_1 l0_1.length c0_1)] 26 (0, 0))) ∧ Aside0 (w'.heap[gb510]? = some (.cells #[.int .i64 0, (.slice none 0 0)] 26 (0, 0))) ∧ Aside0 (w'.heap[gb511]? = some (.cells #[.int .i64 a0_0, u512001] 26 (0, 0))) ∧ Aside0 (Below w.heap.size w w'))
 case atStart => exact ⟨(0), (([] : List (List Int))), (.slice none 0 0), (by first | rfl | (simp; done) | (simp [*]; done)), H', ⟨Nat.le_refl _⟩, ⟨by first | exact Kd.S_nil _ _ _ _ _ | exact Kd.N_nil _ _ _ _ _ | exact Kd.V_nil _ _ _ _ _ | exact Kd.Q_nil _ _ _ _ _ | exact Kd.R_nil _ _ _ _ _⟩, ⟨by (with_reducible repeat (first | refine blk_drewN ?_ _ | refine blk_drew ?_ | refine blk_alloc ?_ _)); refine blk_far ?_ NB509_511.out _; (with_reducible repeat (first | refine blk_drewN ?_ _ | refine blk_drew ?_ | refine blk_alloc ?_ _)); refine blk_far ?_ NB509_511.out _; (with_reducible repeat (first | refine blk_drewN ?_ _ | refine blk_drew ?_ | refine blk_alloc ?_ _)); exact BK509.out⟩, ⟨by (with_reducible repeat (first | refine blk_drewN ?_ _ | refine blk_drew ?_ | refine blk_alloc ?_ _)); refine blk_far ?_ NB510_511.out _; (with_reducible repeat (first | refine blk_drewN ?_ _ | refine blk_drew ?_ | refine blk_alloc ?_ _)); refine blk_far ?_ NB510_511.out _; (with_reducible repeat (first | refine blk_drewN ?_ _ | refine blk_drew ?_ | refine blk_alloc ?_ _)); exact BK510.out⟩, ⟨by (with_reducible repeat (first | refine blk_drewN ?_ _ | refine blk_drew ?_ | refine blk_alloc ?_ _)); refine blk_put (cs := #[.int .i64 a0_0, .slice none 0 0]) ?_ 1 _ rfl; (with_reducible repeat (first | refine blk_drewN ?_ _ | refine blk_drew ?_ | refine blk_alloc ?_ _)); refine blk_put (cs := #[.int .i64 0, .slice none 0 0]) ?_ 0 _ rfl; (with_reducible repeat (first | refine blk_drewN ?_ _ | refine blk_drew ?_ | refine blk_alloc ?_ _)); exact BK511.out⟩, ⟨bl HB⟩⟩
 case round =>
  clear H'
  try clear p2
  try clear c4
  try clear c7
  try clear c8
  try clear hcz5_0
  try clear hcz5_1
  try clear hcz9_0
  try clear hcz9_1
  try clear hfz5_0
  try clear hfz5_1
  try clear hfz9_0
  try clear hfz9_1
  obtain ⟨x4_1, x512001_1, u512001, rfl, HA, HK1, HO_512001, BK509, BK510, BK511, HB⟩ := hrel
  cases gk with
  | zero => exact absurd HA.out (by simp [gamplaw05_few.l0])
  | succ k1 =>
   have H := HA.out
   clear HA
   simp only [gamplaw05_few.l0] at H
   by_cases c10 : x4_1 < (l0_1.length : Int)
   ·rw [if_pos c10] at H
    have c10b0 : decide (x4_1 < (l0_1.length : Int)) = true := decide_eq_true c10
    clear c10
    by_cases c11 : x4_1 < 30
    ·rw [if_pos c11] at H
     have c11b0 : decide (x4_1 < 30) = true := decide_eq_true c11
     clear c11
     obtain ⟨y512, hy512⟩ : ∃ y_ : List Int, y_ = (([] : List Int)) := ⟨_, rfl⟩
     replace H : (if 0 ≤ x4_1 then (if 0 ≤ (mn ((rd_L1 l0_1 x4_1).length : Int) 9) then (if (mn ((rd_L1 l0_1 x4_1).length : Int) 9) ≤ ((rd_L1 l0_1 x4_1).length : Int) then (if y512.length + ((rd_L1 l0_1 x4_1).take ((mn ((rd_L1 l0_1 x4_1).length : Int) 9) : Int).toNat).length < 17592186044416 then (if x512001_1.length < 5864062014805 then (gamplaw05_few.l0 k1 (wrap64 (x4_1 + 1)) a0_0 l0_1 a0_0 (x512001_1 ++ [(y512 ++ ((rd_L1 l0_1 x4_1).take ((mn ((rd_L1 l0_1 x4_1).length : Int) 9) : Int).toNat))])) else (none)) else (none)) else (none)) else (none)) else (none)) = some (r1, r2) := by first | (rw [hy512]; with_reducible exact H) | (have H2_ := (Option.bind_some _ _).symm.trans H; rw [hy512]; with_reducible exact H2_) | (have H2_ := (Option.bind_some _ _).symm.trans H; with_reducible exact H2_) | with_reducible exact H | (rw [hy512]; exact H) | exact H
     have Ny512 := Aside0.mk hy512
     clear hy512
     by_cases c12 : 0 ≤ x4_1
     ·rw [if_pos c12] at H
      have c12b0 : decide (0 ≤ x4_1) = true := decide_eq_true c12
      clear c12
      obtain ⟨ji13, hji13⟩ : ∃ j_ : Int, (mn ((rd_L1 l0_1 x4_1).length : Int) 9) = j_ := ⟨_, rfl⟩
      replace H : (if 0 ≤ (ji13) then (if (ji13) ≤ ((rd_L1 l0_1 x4_1).length : Int) then (if y512.length + ((rd_L1 l0_1 x4_1).take ((ji13) : Int).toNat).length < 17592186044416 then (if x512001_1.length < 5864062014805 then (gamplaw05_few.l0 k1 (wrap64 (x4_1 + 1)) a0_0 l0_1 a0_0 (x512001_1 ++ [(y512 ++ ((rd_L1 l0_1 x4_1).take ((ji13) : Int).toNat))])) else (none)) else (none)) else (none)) else (none)) = some (r1, r2) := by first | (rw [hji13] at H; exact H) | (simp only [hji13] at H ⊢; exact H)
      have hji13_ : (if 9 < ((rd_L1 l0_1 x4_1).length : Int) then 9 else ((rd_L1 l0_1 x4_1).length : Int)) = ji13 := hji13
      by_cases c14 : 0 ≤ (ji13)
      ·rw [if_pos c14] at H
       have c14b0 := eq_true c14
       have c14b1 : decide (0 ≤ (ji13)) = true := decide_eq_true c14
       clear c14
       by_cases c15 : (ji13) ≤ ((rd_L1 l0_1 x4_1).length : Int)
       ·rw [if_pos c15] at H
        have c15b0 := eq_true c15
        have c15b1 : decide ((ji13) ≤ ((rd_L1 l0_1 x4_1).length : Int)) = true := decide_eq_true c15
        clear c15
        by_cases c16 : y512.length + ((rd_L1 l0_1 x4_1).take ((ji13) : Int).toNat).length < 17592186044416
        ·rw [if_pos c16] at H
         have LMc16 := Aside0.mk c16
         clear c16
         obtain ⟨y518, hy518⟩ : ∃ y_ : List Int, y_ = (y512 ++ ((rd_L1 l0_1 x4_1).take ((ji13) : Int).toNat)) := ⟨_, rfl⟩
         replace H : (if x512001_1.length < 5864062014805 then (gamplaw05_few.l0 k1 (wrap64 (x4_1 + 1)) a0_0 l0_1 a0_0 (x512001_1 ++ [y518])) else (none)) = some (r1, r2) := by first | (rw [hy518]; with_reducible exact H) | (have H2_ := (Option.bind_some _ _).symm.trans H; rw [hy518]; with_reducible exact H2_) | (have H2_ := (Option.bind_some _ _).symm.trans H; with_reducible exact H2_) | with_reducible exact H | (rw [hy518]; exact H) | exact H
         have Ny518 := Aside0.mk hy518
         clear hy518
         by_cases c17 : x512001_1.length < 5864062014805
         ·rw [if_pos c17] at H
          have LMc17 := Aside0.mk c17
          clear c17
          obtain ⟨y521, hy521⟩ : ∃ y_ : List (List Int), y_ = (x512001_1 ++ [y518]) := ⟨_, rfl⟩
          replace H : (gamplaw05_few.l0 k1 (wrap64 (x4_1 + 1)) a0_0 l0_1 a0_0 y521) = some (r1, r2) := by first | (rw [hy521]; with_reducible exact H) | (have H2_ := (Option.bind_some _ _).symm.trans H; rw [hy521]; with_reducible exact H2_) | (have H2_ := (Option.bind_some _ _).symm.trans H; with_reducible exact H2_) | with_reducible exact H | (rw [hy521]; exact H) | exact H
          have Ny521 := Aside0.mk hy521
          clear hy521
          have H' := Aside0.mk H
          clear H
          have hnb18 := NB509_510.out
          have hnc18 := NB510_509.out
          have hnb19 := NB509_511.out
          have hnc19 := NB511_509.out
          have hcz20_0 : wr.cell? ⟨gb509, 0, none⟩ = some (.int .i64 a0_0) := (blk_cell BK509.out 0).trans rfl
          have hcz20_1 : wr.cell? ⟨gb509, 1, none⟩ = some (.slice A0_1 l0_1.length c0_1) := (blk_cell BK509.out 1).trans rfl
          have hfz20_0 := blk_frozen BK509.out 0
          have hfz20_1 := blk_frozen BK509.out 1
          try go_wp2
          have n0_ := Aside0.mk (Kd.S_drew HO_512001.out)
          have n1_ := Aside0.mk (blk_drew BK509.out)
          have n2_ := Aside0.mk (blk_drew BK510.out)
          have n3_ := Aside0.mk (blk_drew BK511.out)
          have n4_ := Aside0.mk (below_drew1 HB.out)
          clear HO_512001 BK509 BK510 BK511 HB
          have HO_512001 := n0_; have BK509 := n1_; have BK510 := n2_; have BK511 := n3_; have HB := n4_
          clear n0_ n1_ n2_ n3_ n4_
          have p515 : 0 ≤ (x4_1 : Int) := ofd
          have q515 : x4_1 < (l0_1.length : Int) := ofd
          obtain ⟨ad515, A515_0, c515_0, e515, hx515_0, hl515_0, hi515_0⟩ := at_L1 HR0_1.out x4_1 p515 q515
          have hw515_0 := hx515_0
          cases e515
          replace hx515_0 := (HB.out.cell (World.block_lt_of_cell? w _ hx515_0)).trans hx515_0
          have HR515_0 := Aside0.mk hi515_0
          have HC515_0 := Aside0.mk hl515_0
          clear hi515_0 hl515_0
          replace p515 := eq_true p515
          replace q515 := eq_true q515
          have p516 : 0 ≤ (x4_1 : Int) := ofd
          have q516 : x4_1 < (l0_1.length : Int) := ofd
          obtain ⟨ad516, A516_0, c516_0, e516, hx516_0, hl516_0, hi516_0⟩ := at_L1 HR0_1.out x4_1 p516 q516
          have hw516_0 := hx516_0
          obtain rfl : ad515 = ad516 := (by injection e516)
          replace hx516_0 := (HB.out.cell (World.block_lt_of_cell? w _ hx516_0)).trans hx516_0
          have HR516_0 := Aside0.mk hi516_0
          have HC516_0 := Aside0.mk hl516_0
          clear hi516_0 hl516_0
          replace p516 := eq_true p516
          replace q516 := eq_true q516
          have ea_ := Option.some.inj (hx515_0.symm.trans hx516_0)
          injection ea_ with ea_ en_ ec_
          subst ea_
          subst ec_
          clear en_
          obtain ⟨i022, hi022, _, hsz22, _⟩ := info_parts info3
          obtain ⟨hcut22, hA22, hC22⟩ := print_take_of (P := Try.prog) (Value.int .i64) 0 22 3 .i64 Try.underlying22 hi022 hsz22 A515_0 c515_0 (rd_L1 l0_1 x4_1) (ji13) (ofd) (ofd) HC515_0.out
          have HR517 := Aside0.mk (Kd.C_of_reads (h1 := fun _ => rfl) (hA22 _ (Kd.reads_of_C HR515_0.out)))
          have HC517 := Aside0.mk hC22
          clear hA22 hC22 hi022 hsz22
          refine start_ (n := 21) (S := fun w' => w'.cell? ⟨gb511, 0, none⟩ = some (.int .i64 a0_0) ∧ w'.cell? ⟨gb511, 1, none⟩ = some (u512001) ∧ w'.cell? ⟨gb509, 0, none⟩ = some (.int .i64 a0_0) ∧ w'.cell? ⟨gb509, 1, none⟩ = some (.slice (some ad515) l0_1.length c0_1) ∧ w'.cell? (ad515.add (x4_1).toNat) = some (.slice A515_0 (rd_L1 l0_1 x4_1).length c515_0) ∧ w'.cell? (ad515.add (x4_1).toNat) = some (.slice A515_0 (rd_L1 l0_1 x4_1).length c515_0)) (ds := [20]) #[false, false, false, false, false, false, false, false, false, false, false, false, false, false, false, false, false, false, false, false, false] (by kernel_rfl) rfl rfl ⟨(blk_cell BK511.out 0).trans rfl, (blk_cell BK511.out 1).trans rfl, (blk_cell BK509.out 0).trans rfl, (blk_cell BK509.out 1).trans rfl, ((HB.out.cell (World.block_lt_of_cell? w _ hw515_0)).trans hw515_0), ((HB.out.cell (World.block_lt_of_cell? w _ hw516_0)).trans hw516_0)⟩ (fun hHeld => ?_); refine with_tabW gamplaw05_few.tab5 gamplaw05_few.bits5 (fun HT_ HW_ => ?_)
          generalize wr.drew = w21 at HO_512001 BK509 BK510 BK511 HB HR515_0 HR516_0 HR517 hx515_0 hx516_0 hHeld ⊢
          refine pr 0 19 HT_ ?_
          refine pr 3 22 HT_ ?_
          refine pr 5 24 HT_ ?_
          refine pr 8 27 HT_ ?_
          refine pr 10 29 HT_ ?_
          refine tr 1 20 HT_ HW_ hHeld ?_
          refine tr 4 23 HT_ HW_ hHeld ?_
          refine pr 6 25 HT_ ?_
          refine tr 7 26 HT_ HW_ hHeld ?_
          refine tr 9 28 HT_ HW_ hHeld ?_
          refine pr 11 30 HT_ ?_
          refine tr 12 31 HT_ HW_ hHeld ?_
          refine pr 13 32 HT_ ?_
          refine pr 14 33 HT_ ?_
          refine pr 15 34 HT_ ?_
          refine on 2 (some 21) HT_ (fun K hK => ?_)
          refine Kd.R_lit_step (Kd.int .i64) _ 3 ?hg (N := 21) ?hd (xs := ([] : List Int)) (inner := []) (ok := fun _ => True) (okp := fun _ => True) ?hr ?hp (fun _ hk => hk) trivial (Below.refl _ _) (Nat.le_refl _) (by simp) ?_; (case hd => rfl); (case hg => rfl); (case hr => first | (go_simp; done) | (go_simp; rfl)); (case hp => exact (Reps.none _ _))
          intro v513 w23 ho24 hb hg_ hnew_
          clear hg_ hnew_
          (first | rw [← Ny512.out] at ho24 | (simp only [Int.reduceToNat] at ho24; rw [← Ny512.out] at ho24))
          have n0_ := Aside0.mk (Kd.S_elder' (by (with_reducible repeat (first | apply Kd.S_alloc | apply Kd.S_drewN | apply Kd.S_drew)); exact HO_512001.out) (Kd.R_base ho24) hb)
          have n1_ := Aside0.mk (Kd.R_lower ho24 (below_size (bl HB)))
          have n2_ := Aside0.mk (blk_below (g := gb509) (o := .cells #[.int .i64 a0_0, .slice (some ad515) l0_1.length c0_1] 26 (0, 0)) (bk BK509) hb)
          have n3_ := Aside0.mk (blk_below (g := gb510) (o := .cells #[.int .i64 0, .slice none 0 0] 26 (0, 0)) (bk BK510) hb)
          have n4_ := Aside0.mk (blk_below (g := gb511) (o := .cells #[.int .i64 a0_0, u512001] 26 (0, 0)) (bk BK511) hb)
          have n5_ := Aside0.mk (below_step (bl HB) hb)
          clear HO_512001 BK509 BK510 BK511 HB
          have HO_512001 := n0_; have HO514 := n1_; have BK509 := n2_; have BK510 := n3_; have BK511 := n4_; have HB := n5_
          clear n0_ n1_ n2_ n3_ n4_ n5_ hb ho24
          refine hK.out _ _ ⟨(blk_cell BK511.out 0).trans rfl, (blk_cell BK511.out 1).trans rfl, (blk_cell BK509.out 0).trans rfl, (blk_cell BK509.out 1).trans rfl, ((HB.out.cell (World.block_lt_of_cell? w _ hw515_0)).trans hw515_0), ((HB.out.cell (World.block_lt_of_cell? w _ hw516_0)).trans hw516_0)⟩ (fun hHeld => ?_)
          clear hK K
          refine nr (some 21) ?_
          refine on 16 (some 35) HT_ (fun K hK => ?_)
          refine Kd.R_append_rows_step (Kd.int .i64) (w0 := w) w.heap.size (by rfl) (.tmp 21) (.tmp 34) 22 3 (.int .i64 0) 8 rfl Try.underlying22 info3 rfl (by decide) (by omega) v513 y512 ((rd_L1 l0_1 x4_1).take ((ji13) : Int).toNat) _ _ _ (fun _ => True) (fun _ => False) rfl rfl ?aO ?aR (fun _ _ h => h) (fun _ h => h.elim) ?aF ?aB ?aS ?aL ?_
          (case aR => first | (have e_ := (show ((rd_L1 l0_1 x4_1).take ((ji13) : Int).toNat).length = (ji13).toNat from (by rw [List.length_take]; have h_ : ((ji13) : Int) ≤ ((rd_L1 l0_1 x4_1).length : Int) := ofd; omega)); have hh_ := Kd.C_below HR517.out HB.out; rw [e_] at hh_; exact hh_) | (rw [← show ((rd_L1 l0_1 x4_1).take ((ji13) : Int).toNat).length = (ji13).toNat from (by rw [List.length_take]; have h_ : ((ji13) : Int) ≤ ((rd_L1 l0_1 x4_1).length : Int) := ofd; omega)]; exact cl (Kd.C_below HR517.out HB.out)) | (exact cl (Kd.C_below HR517.out HB.out)))
          (case aB => exact (bl HB))
          (case aF => exact (fun _ _ => trivial))
          (case aO => exact (rl HO514))
          (case aS => exact (below_size (bl HB)))
          (case aL => have := LMc16.out; have hlx_ := (show ((rd_L1 l0_1 x4_1).take ((ji13) : Int).toNat).length = (ji13).toNat from (by rw [List.length_take]; have h_ : ((ji13) : Int) ≤ ((rd_L1 l0_1 x4_1).length : Int) := ofd; omega)); omega)
          intro v519 w25 ho hb hg hat
          rw [← Ny518.out] at ho
          have n0_ := Aside0.mk (Kd.S_after (ok := (fun _ => True)) (by (with_reducible repeat (first | apply Kd.S_alloc | apply Kd.S_drewN | apply Kd.S_drew)); exact HO_512001.out) hg hat)
          have n1_ := Aside0.mk (blk_grown (g := gb509) (o := .cells #[.int .i64 a0_0, .slice (some ad515) l0_1.length c0_1] 26 (0, 0)) (bk BK509) hg (Kd.R_ne HO514.out BK509.out (by decide)))
          have n2_ := Aside0.mk (blk_grown (g := gb510) (o := .cells #[.int .i64 0, .slice none 0 0] 26 (0, 0)) (bk BK510) hg (Kd.R_ne HO514.out BK510.out (by decide)))
          have n3_ := Aside0.mk (blk_grown (g := gb511) (o := .cells #[.int .i64 a0_0, u512001] 26 (0, 0)) (bk BK511) hg (Kd.R_ne HO514.out BK511.out (by decide)))
          have n4_ := Aside0.mk (hb)
          have n5_ := Aside0.mk (ho)
          clear HO_512001 BK509 BK510 BK511 HB HO514
          have HO_512001 := n0_; have BK509 := n1_; have BK510 := n2_; have BK511 := n3_; have HB := n4_; have HO520 := n5_
          clear n0_ n1_ n2_ n3_ n4_ n5_ ho hb hg hat
          obtain ⟨Ao27, co27, eo27⟩ := Kd.R_slice HO520.out
          (first | subst eo27 | (injection eo27 with f1_ f2_ f3_; have f4_ := f1_.symm; have f5_ := f3_.symm; clear f1_ f2_ f3_; subst f4_; subst f5_))
          refine hK.out _ _ ⟨(blk_cell BK511.out 0).trans rfl, (blk_cell BK511.out 1).trans rfl, (blk_cell BK509.out 0).trans rfl, (blk_cell BK509.out 1).trans rfl, ((HB.out.cell (World.block_lt_of_cell? w _ hw515_0)).trans hw515_0), ((HB.out.cell (World.block_lt_of_cell? w _ hw516_0)).trans hw516_0)⟩ (fun hHeld => ?_)
          clear hK K
          refine nr (some 35) ?_
          refine on 17 (some 36) HT_ (fun K hK => ?_)
          refine value_ (w1 := ?_) (v := ?_) (by rfl) rfl ?_ ?_
          rotate_left 2
          ·go_simp
           constructor
           ·rfl
           ·rfl
          refine hK.out _ _ ⟨(blk_cell (blk_alloc BK511.out _) 0).trans rfl, (blk_cell (blk_alloc BK511.out _) 1).trans rfl, (blk_cell (blk_alloc BK509.out _) 0).trans rfl, (blk_cell (blk_alloc BK509.out _) 1).trans rfl, (World.cell?_alloc_lt _ _ _ (World.block_lt_of_cell? _ _ (((HB.out.cell (World.block_lt_of_cell? w _ hw515_0)).trans hw515_0)))).trans (((HB.out.cell (World.block_lt_of_cell? w _ hw515_0)).trans hw515_0)), (World.cell?_alloc_lt _ _ _ (World.block_lt_of_cell? _ _ (((HB.out.cell (World.block_lt_of_cell? w _ hw516_0)).trans hw516_0)))).trans (((HB.out.cell (World.block_lt_of_cell? w _ hw516_0)).trans hw516_0))⟩ (fun hHeld => ?_)
          clear hK K
          refine nr (some 36) ?_
          refine on 18 (some 37) HT_ (fun K hK => ?_)
          refine Kd.S_append_step (Kd.slice 3 (Kd.int .i64)) (w0 := w) w.heap.size (by rfl) (.tmp 20) (.tmp 36) 24 22 (.slice none 0 0) 24 rfl Try.underlying24 info22 rfl (by decide) (by omega) u512001 x512001_1 y518 [.slice Ao27 y518.length co27] (fun _ => True) (fun k_ => some k_ = (.slice Ao27 y518.length co27 : Value).ownBlock) rfl rfl ?aP (fun k_ hk_ => ((Kd.R_mono (ok' := fun k_ => ((fun _ => True)) k_ ∧ some k_ ≠ (u512001 : Value).ownBlock) (Kd.R_apart' (HO520.out) (Kd.S_typed HO_512001.out) (by decide)) (fun k_ hk => ⟨trivial, hk.2⟩))).1 k_ hk_.symm) ?aF ?aO ?aB ?aS ?aL ?_
          (case aP => exact Kd.M_row (Kd.R_mono (Kd.R_tight rfl (Kd.R_mono (ok' := fun k_ => ((fun _ => True)) k_ ∧ some k_ ≠ (u512001 : Value).ownBlock) (Kd.R_apart' (HO520.out) (Kd.S_typed HO_512001.out) (by decide)) (fun k_ hk => ⟨trivial, hk.2⟩))) (fun _ h_ => h_)))
          (case aB => exact (bl HB))
          (case aF => exact (fun _ _ => trivial))
          (case aO => exact (by (with_reducible repeat (first | apply Kd.S_alloc | apply Kd.S_drewN | apply Kd.S_drew)); exact Kd.S_mono HO_512001.out (fun k_ hk => ⟨trivial, fun e_ => hk.2 e_⟩)))
          (case aS => exact (below_size (bl HB)))
          (case aL => have := LMc17.out; omega)
          intro v522 w26 ho hb hg hat
          rw [← Ny521.out] at ho
          have n0_ := Aside0.mk (blk_grown (g := gb509) (o := .cells #[.int .i64 a0_0, .slice (some ad515) l0_1.length c0_1] 26 (0, 0)) (bk BK509) hg (Kd.S_ne HO_512001.out BK509.out (by decide)))
          have n1_ := Aside0.mk (blk_grown (g := gb510) (o := .cells #[.int .i64 0, .slice none 0 0] 26 (0, 0)) (bk BK510) hg (Kd.S_ne HO_512001.out BK510.out (by decide)))
          have n2_ := Aside0.mk (blk_grown (g := gb511) (o := .cells #[.int .i64 a0_0, u512001] 26 (0, 0)) (bk BK511) hg (Kd.S_ne HO_512001.out BK511.out (by decide)))
          have n3_ := Aside0.mk (hb)
          have n4_ := Aside0.mk (ho)
          clear BK509 BK510 BK511 HB HO_512001 HO520
          have BK509 := n0_; have BK510 := n1_; have BK511 := n2_; have HB := n3_; have HO523 := n4_
          clear n0_ n1_ n2_ n3_ n4_ ho hb hg hat
          obtain ⟨Ao28, co28, eo28⟩ := Kd.S_slice HO523.out
          (first | subst eo28 | (injection eo28 with f1_ f2_ f3_; have f4_ := f1_.symm; have f5_ := f3_.symm; clear f1_ f2_ f3_; subst f4_; subst f5_))
          refine hK.out _ _ ⟨(blk_cell BK511.out 0).trans rfl, (blk_cell BK511.out 1).trans rfl, (blk_cell BK509.out 0).trans rfl, (blk_cell BK509.out 1).trans rfl, ((HB.out.cell (World.block_lt_of_cell? w _ hw515_0)).trans hw515_0), ((HB.out.cell (World.block_lt_of_cell? w _ hw516_0)).trans hw516_0)⟩ (fun hHeld => ?_)
          clear hK K
          refine nr (some 37) ?_
          refine pr 19 38 HT_ ?_
          refine la 20 (none) HT_ (fun K hK => ?_)
          have hs29 : w26.cell? ⟨gb511, 1, none⟩ = some (u512001) := (blk_cell BK511.out 1).trans rfl
          have hfs29 := blk_frozen BK511.out 1
          have hns29_0 := NB509_511.out
          have hns29_1 := NB510_511.out
          have hms29_0 := NB511_509.out
          have hms29_1 := NB511_510.out
          refine sk ?_
          refine hK.out _ _ ?_
          clear hK K
          refine dn HT_ ?_
          try go_wp2
          go_roundg k1
          case measure => have := HK1.out; omega
          case rel => exact ⟨(wrap64 (x4_1 + 1)), (y521), (.slice Ao28 y521.length co28), (by first | rfl | (simp; done) | (simp [*]; done)), H', ⟨by have := HK1.out; omega⟩, ⟨by (with_reducible repeat (first | apply Kd.S_alloc | apply Kd.S_drewN | apply Kd.S_drew)); exact Kd.S_mono (Kd.S_far (p := ⟨gb511, 1, none⟩) (Kd.S_types HO523.out BK511.out (by decide)) (fun _ hk => hk.2) (.slice Ao28 y521.length co28)) (fun _ hk => trivial)⟩, ⟨by (with_reducible repeat (first | refine blk_drewN ?_ _ | refine blk_drew ?_ | refine blk_alloc ?_ _)); refine blk_far ?_ NB509_511.out _; (with_reducible repeat (first | refine blk_drewN ?_ _ | refine blk_drew ?_ | refine blk_alloc ?_ _)); exact BK509.out⟩, ⟨by (with_reducible repeat (first | refine blk_drewN ?_ _ | refine blk_drew ?_ | refine blk_alloc ?_ _)); refine blk_far ?_ NB510_511.out _; (with_reducible repeat (first | refine blk_drewN ?_ _ | refine blk_drew ?_ | refine blk_alloc ?_ _)); exact BK510.out⟩, ⟨by (with_reducible repeat (first | refine blk_drewN ?_ _ | refine blk_drew ?_ | refine blk_alloc ?_ _)); refine blk_put (cs := #[.int .i64 a0_0, u512001]) ?_ 1 _ rfl; (with_reducible repeat (first | refine blk_drewN ?_ _ | refine blk_drew ?_ | refine blk_alloc ?_ _)); exact BK511.out⟩, ⟨bl HB⟩⟩
         ·rw [if_neg c17] at H
          exact absurd H (by simp)
        ·rw [if_neg c16] at H
         exact absurd H (by simp)
       ·rw [if_neg c15] at H
        exact absurd H (by simp)
      ·rw [if_neg c14] at H
       exact absurd H (by simp)
     ·rw [if_neg c12] at H
      exact absurd H (by simp)
    ·rw [if_neg c11] at H
     have c11b0 : decide (x4_1 < 30) = false := decide_eq_false c11
     clear c11
     simp only [Option.some.injEq, Prod.mk.injEq] at H
     obtain ⟨rfl, rfl⟩ := H
     have hnb30 := NB509_510.out
     have hnc30 := NB510_509.out
     have hnb31 := NB509_511.out
     have hnc31 := NB511_509.out
     have hcz32_0 : wr.cell? ⟨gb509, 0, none⟩ = some (.int .i64 a0_0) := (blk_cell BK509.out 0).trans rfl
     have hcz32_1 : wr.cell? ⟨gb509, 1, none⟩ = some (.slice A0_1 l0_1.length c0_1) := (blk_cell BK509.out 1).trans rfl
     have hfz32_0 := blk_frozen BK509.out 0
     have hfz32_1 := blk_frozen BK509.out 1
     have hnb33 := NB511_510.out
     have hnc33 := NB510_511.out
     have hcz34_0 : wr.cell? ⟨gb511, 0, none⟩ = some (.int .i64 a0_0) := (blk_cell BK511.out 0).trans rfl
     have hcz34_1 : wr.cell? ⟨gb511, 1, none⟩ = some (u512001) := (blk_cell BK511.out 1).trans rfl
     have hfz34_0 := blk_frozen BK511.out 0
     have hfz34_1 := blk_frozen BK511.out 1
     have hcz35_0 : wr.cell? ⟨gb510, 0, none⟩ = some (.int .i64 0) := (blk_cell BK510.out 0).trans rfl
     have hcz35_1 : wr.cell? ⟨gb510, 1, none⟩ = some (.slice none 0 0) := (blk_cell BK510.out 1).trans rfl
     have hfz35_0 := blk_frozen BK510.out 0
     have hfz35_1 := blk_frozen BK510.out 1
     obtain ⟨Ao36, co36, eo36⟩ := Kd.S_slice HO_512001.out
     subst eo36
     go_wp2
     refine bodyPost_ret (results_cell_row rfl _ _ gb510 26 #[.int .i64 a0_0, .slice Ao36 x512001_1.length co36] (0, 0) _ rfl (by (with_reducible repeat (first | refine blk_drewN ?_ _ | refine blk_drew ?_ | refine blk_alloc ?_ _)); refine blk_put (cs := #[.int .i64 a0_0, .slice none 0 0]) ?_ 1 _ rfl; (with_reducible repeat (first | refine blk_drewN ?_ _ | refine blk_drew ?_ | refine blk_alloc ?_ _)); refine blk_put (cs := #[.int .i64 0, .slice none 0 0]) ?_ 0 _ rfl; (with_reducible repeat (first | refine blk_drewN ?_ _ | refine blk_drew ?_ | refine blk_alloc ?_ _)); exact BK510.out) Try.underlying26 rfl (by kernel_rfl)) rfl ?_
     exact ⟨_, by first | rfl | (simp [errW_none, errW_some] <;> rfl) | (simp [*, errW_none, errW_some] <;> rfl), by (with_reducible repeat (first | apply Kd.S_alloc | apply Kd.S_drewN | apply Kd.S_drew)); exact Kd.S_mono (Kd.S_far (p := ⟨gb510, 1, none⟩) (Kd.S_far (p := ⟨gb510, 0, none⟩) (Kd.S_types HO_512001.out BK510.out (by decide)) (fun _ hk => hk.2) (.int .i64 a0_0)) (fun _ hk => hk.2) (.slice Ao36 x512001_1.length co36)) (fun _ hk => trivial), by repeat (first | (with_reducible first | exact HB.out | apply below_alloc | apply pw_below_drewN | apply below_drew1 | refine below_set ?_ GE509.out | refine below_set ?_ GE510.out | refine below_set ?_ GE511.out) | exact HB.out)⟩
   ·rw [if_neg c10] at H
    have c10b0 : decide (x4_1 < (l0_1.length : Int)) = false := decide_eq_false c10
    clear c10
    simp only [Option.some.injEq, Prod.mk.injEq] at H
    obtain ⟨rfl, rfl⟩ := H
    have hnb37 := NB509_510.out
    have hnc37 := NB510_509.out
    have hnb38 := NB509_511.out
    have hnc38 := NB511_509.out
    have hcz39_0 : wr.cell? ⟨gb509, 0, none⟩ = some (.int .i64 a0_0) := (blk_cell BK509.out 0).trans rfl
    have hcz39_1 : wr.cell? ⟨gb509, 1, none⟩ = some (.slice A0_1 l0_1.length c0_1) := (blk_cell BK509.out 1).trans rfl
    have hfz39_0 := blk_frozen BK509.out 0
    have hfz39_1 := blk_frozen BK509.out 1
    have hnb40 := NB511_510.out
    have hnc40 := NB510_511.out
    have hcz41_0 : wr.cell? ⟨gb511, 0, none⟩ = some (.int .i64 a0_0) := (blk_cell BK511.out 0).trans rfl
    have hcz41_1 : wr.cell? ⟨gb511, 1, none⟩ = some (u512001) := (blk_cell BK511.out 1).trans rfl
    have hfz41_0 := blk_frozen BK511.out 0
    have hfz41_1 := blk_frozen BK511.out 1
    have hcz42_0 : wr.cell? ⟨gb510, 0, none⟩ = some (.int .i64 0) := (blk_cell BK510.out 0).trans rfl
    have hcz42_1 : wr.cell? ⟨gb510, 1, none⟩ = some (.slice none 0 0) := (blk_cell BK510.out 1).trans rfl
    have hfz42_0 := blk_frozen BK510.out 0
    have hfz42_1 := blk_frozen BK510.out 1
    obtain ⟨Ao43, co43, eo43⟩ := Kd.S_slice HO_512001.out
    subst eo43
    go_wp2
    refine bodyPost_ret (results_cell_row rfl _ _ gb510 26 #[.int .i64 a0_0, .slice Ao43 x512001_1.length co43] (0, 0) _ rfl (by (with_reducible repeat (first | refine blk_drewN ?_ _ | refine blk_drew ?_ | refine blk_alloc ?_ _)); refine blk_put (cs := #[.int .i64 a0_0, .slice none 0 0]) ?_ 1 _ rfl; (with_reducible repeat (first | refine blk_drewN ?_ _ | refine blk_drew ?_ | refine blk_alloc ?_ _)); refine blk_put (cs := #[.int .i64 0, .slice none 0 0]) ?_ 0 _ rfl; (with_reducible repeat (first | refine blk_drewN ?_ _ | refine blk_drew ?_ | refine blk_alloc ?_ _)); exact BK510.out) Try.underlying26 rfl (by kernel_rfl)) rfl ?_
    exact ⟨_, by first | rfl | (simp [errW_none, errW_some] <;> rfl) | (simp [*, errW_none, errW_some] <;> rfl), by (with_reducible repeat (first | apply Kd.S_alloc | apply Kd.S_drewN | apply Kd.S_drew)); exact Kd.S_mono (Kd.S_far (p := ⟨gb510, 1, none⟩) (Kd.S_far (p := ⟨gb510, 0, none⟩) (Kd.S_types HO_512001.out BK510.out (by decide)) (fun _ hk => hk.2) (.int .i64 a0_0)) (fun _ hk => hk.2) (.slice Ao43 x512001_1.length co43)) (fun _ hk => trivial), by repeat (first | (with_reducible first | exact HB.out | apply below_alloc | apply pw_below_drewN | apply below_drew1 | refine below_set ?_ GE509.out | refine below_set ?_ GE510.out | refine below_set ?_ GE511.out) | exact HB.out)⟩
end Go.Proofs.Ytdldfdcedjmneaa.Lx

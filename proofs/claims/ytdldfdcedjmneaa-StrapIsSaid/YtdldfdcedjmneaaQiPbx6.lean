/- The declarations of Pbx6 that the claim Qi needs. -/
import Derived.Test.YtdldfdcedjmneaaQiTkP
import Derived.Test.YtdldfdcedjmneaaQiPbx0
namespace Go.Proofs.Ytdldfdcedjmneaa.Pb
open Go.RowKit Go.Proofs.Ytdldfdcedjmneaa.Own Go.Proofs.YtdldfdcedjmneaaW.PrintWords Go.Proofs.YtdldfdcedjmneaaW.PrintLast Go.Proofs.YtdldfdcedjmneaaW.PrintMore
attribute [local go_sem] max2_int min2_int max_two min_two max_three min_three max_four min_four
set_option linter.unusedVariables false
set_option linter.unusedSimpArgs false
mutual
def strap_poly_times.j0 : Nat → Bool → Int → List Int → Int → List Int → Option (Int × List Int)
  | 0, _, _, _, _, _ => none
  | k + 1, x19, x190000, x190001, x191000, x191001 => if x19 = true then (some (0, ([] : List Int))) else (if 0 ≤ (wrap64 ((wrap64 ((x190001.length : Int) + (x191001.length : Int))) - 1)) then (if (wrap64 ((wrap64 ((x190001.length : Int) + (x191001.length : Int))) - 1) : Int).toNat ≤ 35184372088832 then (strap_poly_times.l0 k x190001 (x190001.length : Int) 0 x191000 x191001 (wrap64 (x190000 + x191000)) (List.replicate (wrap64 ((wrap64 ((x190001.length : Int) + (x191001.length : Int))) - 1) : Int).toNat 0)) else (none)) else (none))
def strap_poly_times.l0 : Nat → List Int → Int → Int → Int → List Int → Int → List Int → Option (Int × List Int)
  | 0, _, _, _, _, _, _, _ => none
  | k + 1, x37, x38, x39, x191000, x191001, x196000, x196001 => if x39 < x38 then (if 0 ≤ x39 then (if x39 < (x37.length : Int) then (strap_poly_times.l1 k x39 (rd x37 x39) x37 x38 x39 x191001 (x191001.length : Int) 0 x191000 x191001 x196000 x196001) else (none)) else (none)) else (some (x196000, x196001))
def strap_poly_times.l1 : Nat → Int → Int → List Int → Int → Int → List Int → Int → Int → Int → List Int → Int → List Int → Option (Int × List Int)
  | 0, _, _, _, _, _, _, _, _, _, _, _, _ => none
  | k + 1, x6, x7, x37, x38, x39, x45, x46, x47, x191000, x191001, x196000, x196001 => if x47 < x46 then (if 0 ≤ x47 then (if x47 < (x45.length : Int) then (if 0 ≤ (wrap64 (x6 + x47)) then (if (wrap64 (x6 + x47)) < (x196001.length : Int) then (strap_poly_times.l1 k x6 x7 x37 x38 x39 x45 x46 (wrap64 (x47 + 1)) x191000 x191001 x196000 (x196001.set ((wrap64 (x6 + x47)) : Int).toNat (wrap64 ((rd x196001 (wrap64 (x6 + x47))) + (wrap64 (x7 * (rd x45 x47))))))) else (none)) else (none)) else (none)) else (none)) else (strap_poly_times.l0 k x37 x38 (wrap64 (x39 + 1)) x191000 x191001 x196000 x196001)
end
def strap_poly_times.f (k : Nat) (a0_0 : Int) (l0_1 : List Int) (a1_0 : Int) (l1_1 : List Int) : Option (Int × List Int) := if (l0_1.length : Int) = 0 then (strap_poly_times.j0 k true a0_0 l0_1 a1_0 l1_1) else (strap_poly_times.j0 k ((l1_1.length : Int) == 0) a0_0 l0_1 a1_0 l1_1)
def strap_poly_times.T3 : Bool × List (List Nat × List Nat) := (true, [([], []), ([0], [0]), ([], []), ([2], [2]), ([1, 3], [1, 3]), ([], []), ([5], [5]), ([6], [6]), ([], []), ([8], [8]), ([9], [9]), ([7, 10], [7, 10]), ([11], [11]), ([12, 12], [12]), ([4, 13], [4, 13]), ([], []), ([15, 14, 0, 1, 2, 3, 4, 5, 6, 7, 8, 9, 10, 11, 12, 13, 14, 15], [14, 15])])
def strap_poly_times.B3 : List Nat := [0, 1, 0, 4, 15, 0, 32, 96, 0, 256, 768, 2016, 4064, 8160, 16383, 0, 65535]
theorem strap_poly_times.tab3 : rtab .any (opsOf Try.f69 3) = strap_poly_times.T3 := by kernel_rfl
theorem strap_poly_times.bits3 : waitsOk strap_poly_times.T3.2 strap_poly_times.B3 = true := by kernel_rfl
set_option maxHeartbeats 8000000 in
set_option maxRecDepth 100000 in
theorem strap_poly_times.calls (k : Nat) (a0_0 : Int) (A0_1 : Option Addr) (c0_1 : Nat) (l0_1 : List Int) (a1_0 : Int) (A1_1 : Option Addr) (c1_1 : Nat) (l1_1 : List Int) (r1 : Int) (r2 : List Int) (w : World) (hr0_1 : Kd.C (Kd.int .i64) w A0_1 l0_1.length l0_1) (hc0_1 : l0_1.length ≤ c0_1) (hr1_1 : Kd.C (Kd.int .i64) w A1_1 l1_1.length l1_1) (hc1_1 : l1_1.length ≤ c1_1) (h : strap_poly_times.f k a0_0 l0_1 a1_0 l1_1 = some (r1, r2)) :
  Calls Try.prog 69 #[.agg #[.int .i64 a0_0, .slice A0_1 l0_1.length c0_1], .agg #[.int .i64 a1_0, .slice A1_1 l1_1.length c1_1]] w fun e w' => ∃ v1_ : Value, e = .returned (.agg #[.int .i64 r1, v1_]) ∧ Kd.R (Kd.int .i64) 3 w' w.heap.size (fun _ => True) v1_ r2 ∧ Below w.heap.size w w' := by
 have hu100 := Try.underlying100
 have HR0_1 := Aside0.mk hr0_1
 have HC0_1 := Aside0.mk hc0_1
 clear hr0_1 hc0_1
 have HR1_1 := Aside0.mk hr1_1
 have HC1_1 := Aside0.mk hc1_1
 clear hr1_1 hc1_1
 have HB := Aside0.mk (Below.refl w.heap.size w)
 have H : (if (l0_1.length : Int) = 0 then (strap_poly_times.j0 k true a0_0 l0_1 a1_0 l1_1) else (strap_poly_times.j0 k ((l1_1.length : Int) == 0) a0_0 l0_1 a1_0 l1_1)) = some (r1, r2) := h
 clear h
 have HC3 := Aside0.mk H
 clear H
 go_enter Try.func69, Try.ntmps69
 go_upto_region 1 with (first | ((with_reducible refine gate_dst (N := 2) rfl ?_); (try (refine gate_guard (by rfl) ?_; dsimp only)); refine box_event ?hg (N := 2) ?hd (cs := #[.int .i64 a0_0, .slice A0_1 l0_1.length c0_1]) (t := 100) ?hr ?_; (case hd => rfl); (case hg => rfl); (case hr => first | (go_simp; done) | (go_simp; rfl)); intro gb189 hg w4 hbox hb; have n0_ := Aside0.mk (below_step (bl HB) hb); have n1_ := Aside0.mk (hbox); have n2_ := Aside0.mk ((by rw [hg]; exact (below_size (bl HB)) : w.heap.size ≤ gb189)); have n3_ := Aside0.mk ((by rw [hg]; exact (below_size (bl HB)) : w.heap.size ≤ gb189)); clear HB; have HB := n0_; have BK189 := n1_; have GW189 := n2_; have GE189 := n3_; clear n0_ n1_ n2_ n3_; clear hb hbox hg) | ((with_reducible refine gate_dst (N := 3) rfl ?_); (try (refine gate_guard (by rfl) ?_; dsimp only)); refine box_event ?hg (N := 3) ?hd (cs := #[.int .i64 a1_0, .slice A1_1 l1_1.length c1_1]) (t := 100) ?hr ?_; (case hd => rfl); (case hg => rfl); (case hr => first | (go_simp; done) | (go_simp; rfl)); intro gb190 hg w5 hbox hb; have n0_ := Aside0.mk (blk_below (g := gb189) (o := .cells #[.int .i64 a0_0, .slice A0_1 l0_1.length c0_1] 100 (0, 0)) (bk BK189) hb); have n1_ := Aside0.mk (below_step (bl HB) hb); have n2_ := Aside0.mk (hbox); have n3_ := Aside0.mk ((by rw [hg]; exact (below_size (bl HB)) : w.heap.size ≤ gb190)); have n4_ := Aside0.mk ((by rw [hg]; exact (below_size (bl HB)) : w.heap.size ≤ gb190)); have n5_ := Aside0.mk ((by rw [hg]; exact Nat.ne_of_lt (blk_lt (g := gb189) (o := .cells #[.int .i64 a0_0, .slice A0_1 l0_1.length c0_1] 100 (0, 0)) (bk BK189)) : gb189 ≠ gb190)); have n6_ := Aside0.mk ((by rw [hg]; exact Nat.ne_of_gt (blk_lt (g := gb189) (o := .cells #[.int .i64 a0_0, .slice A0_1 l0_1.length c0_1] 100 (0, 0)) (bk BK189)) : gb190 ≠ gb189)); clear BK189; clear HB; have BK189 := n0_; have HB := n1_; have BK190 := n2_; have GW190 := n3_; have GE190 := n4_; have NB189_190 := n5_; have NB190_189 := n6_; clear n0_ n1_ n2_ n3_ n4_ n5_ n6_; clear hb hbox hg) | ((with_reducible refine gate_dst (N := 4) rfl ?_); (try (refine gate_guard (by rfl) ?_; dsimp only)); refine box_event ?hg (N := 4) ?hd (cs := #[.int .i64 0, .slice none 0 0]) (t := 100) ?hr ?_; (case hd => rfl); (case hg => rfl); (case hr => first | (go_simp; done) | (go_simp; rfl)); intro gb191 hg w6 hbox hb; have n0_ := Aside0.mk (blk_below (g := gb189) (o := .cells #[.int .i64 a0_0, .slice A0_1 l0_1.length c0_1] 100 (0, 0)) (bk BK189) hb); have n1_ := Aside0.mk (blk_below (g := gb190) (o := .cells #[.int .i64 a1_0, .slice A1_1 l1_1.length c1_1] 100 (0, 0)) (bk BK190) hb); have n2_ := Aside0.mk (below_step (bl HB) hb); have n3_ := Aside0.mk (hbox); have n4_ := Aside0.mk ((by rw [hg]; exact (below_size (bl HB)) : w.heap.size ≤ gb191)); have n5_ := Aside0.mk ((by rw [hg]; exact (below_size (bl HB)) : w.heap.size ≤ gb191)); have n6_ := Aside0.mk ((by rw [hg]; exact Nat.ne_of_lt (blk_lt (g := gb189) (o := .cells #[.int .i64 a0_0, .slice A0_1 l0_1.length c0_1] 100 (0, 0)) (bk BK189)) : gb189 ≠ gb191)); have n7_ := Aside0.mk ((by rw [hg]; exact Nat.ne_of_gt (blk_lt (g := gb189) (o := .cells #[.int .i64 a0_0, .slice A0_1 l0_1.length c0_1] 100 (0, 0)) (bk BK189)) : gb191 ≠ gb189)); have n8_ := Aside0.mk ((by rw [hg]; exact Nat.ne_of_lt (blk_lt (g := gb190) (o := .cells #[.int .i64 a1_0, .slice A1_1 l1_1.length c1_1] 100 (0, 0)) (bk BK190)) : gb190 ≠ gb191)); have n9_ := Aside0.mk ((by rw [hg]; exact Nat.ne_of_gt (blk_lt (g := gb190) (o := .cells #[.int .i64 a1_0, .slice A1_1 l1_1.length c1_1] 100 (0, 0)) (bk BK190)) : gb191 ≠ gb190)); clear BK189; clear BK190; clear HB; have BK189 := n0_; have BK190 := n1_; have HB := n2_; have BK191 := n3_; have GW191 := n4_; have GE191 := n5_; have NB189_191 := n6_; have NB191_189 := n7_; have NB190_191 := n8_; have NB191_190 := n9_; clear n0_ n1_ n2_ n3_ n4_ n5_ n6_ n7_ n8_ n9_; clear hb hbox hg))
 (try simp only [Act.put, List.setIfInBounds_toArray, List.set_cons_zero, List.set_cons_succ])
 go_cut [19] (fun v19 wc => ∃ (kq : Nat) (x19_2 : Bool), v19 = .bool x19_2 ∧ Aside0 (strap_poly_times.j0 kq x19_2 a0_0 l0_1 a1_0 l1_1 = some (r1, r2)) ∧ Aside0 (kq ≤ k) ∧ Aside0 (wc.heap[gb189]? = some (.cells #[.int .i64 a0_0, (.slice A0_1 l0_1.length c0_1)] 100 (0, 0))) ∧ Aside0 (wc.heap[gb190]? = some (.cells #[.int .i64 a1_0, (.slice A1_1 l1_1.length c1_1)] 100 (0, 0))) ∧ Aside0 (wc.heap[gb191]? = some (.cells #[.int .i64 0, (.slice none 0 0)] 100 (0, 0))) ∧ Aside0 (Below w.heap.size w wc))
 case first =>
  have H := HC3.out
  clear HC3
  by_cases c7 : (l0_1.length : Int) = 0
  ·rw [if_pos c7] at H
   have c7b0 : ((l0_1.length : Int) == 0) = true := beq_iff_eq.mpr c7
   have c7b1 : ((l0_1.length : Int) != 0) = false := bne_eq_false_iff_eq.mpr c7
   clear c7
   (first | rw [c7b0] | (simp only [i64_w, i32_w]; rw [c7b0]) | skip)
   have H' := Aside0.mk H
   clear H
   have hnb8 := NB189_190.out
   have hnc8 := NB190_189.out
   have hnb9 := NB189_191.out
   have hnc9 := NB191_189.out
   have hcz10_0 : w6.cell? ⟨gb189, 0, none⟩ = some (.int .i64 a0_0) := (blk_cell BK189.out 0).trans rfl
   have hcz10_1 : w6.cell? ⟨gb189, 1, none⟩ = some (.slice A0_1 l0_1.length c0_1) := (blk_cell BK189.out 1).trans rfl
   have hfz10_0 := blk_frozen BK189.out 0
   have hfz10_1 := blk_frozen BK189.out 1
   go_wp2
   go_meet
   case rel => exact ⟨_, (true), (by first | rfl | (simp; done) | (simp [*]; done)), H', ⟨by first | omega | exact Nat.le_refl _⟩, ⟨bk BK189⟩, ⟨bk BK190⟩, ⟨bk BK191⟩, ⟨bl HB⟩⟩
  ·rw [if_neg c7] at H
   have c7b0 : ((l0_1.length : Int) == 0) = false := beq_eq_false_iff_ne.mpr c7
   have c7b1 : ((l0_1.length : Int) != 0) = true := bne_iff_ne.mpr c7
   have c7b2 : ¬ (l0_1 = []) := fun h_ => c7 (by rw [h_]; rfl)
   (first | rw [c7b0] | (simp only [i64_w, i32_w]; rw [c7b0]) | skip)
   have H' := Aside0.mk H
   clear H
   have hnb11 := NB189_190.out
   have hnc11 := NB190_189.out
   have hnb12 := NB189_191.out
   have hnc12 := NB191_189.out
   have hcz13_0 : w6.cell? ⟨gb189, 0, none⟩ = some (.int .i64 a0_0) := (blk_cell BK189.out 0).trans rfl
   have hcz13_1 : w6.cell? ⟨gb189, 1, none⟩ = some (.slice A0_1 l0_1.length c0_1) := (blk_cell BK189.out 1).trans rfl
   have hfz13_0 := blk_frozen BK189.out 0
   have hfz13_1 := blk_frozen BK189.out 1
   have hnb14 := NB190_191.out
   have hnc14 := NB191_190.out
   have hcz15_0 : w6.cell? ⟨gb190, 0, none⟩ = some (.int .i64 a1_0) := (blk_cell BK190.out 0).trans rfl
   have hcz15_1 : w6.cell? ⟨gb190, 1, none⟩ = some (.slice A1_1 l1_1.length c1_1) := (blk_cell BK190.out 1).trans rfl
   have hfz15_0 := blk_frozen BK190.out 0
   have hfz15_1 := blk_frozen BK190.out 1
   go_wp2
   go_meet
   case rel => exact ⟨_, (((l1_1.length : Int) == 0)), (by first | rfl | (simp; done) | (simp [*]; done)), H', ⟨by first | omega | exact Nat.le_refl _⟩, ⟨bk BK189⟩, ⟨bk BK190⟩, ⟨bk BK191⟩, ⟨bl HB⟩⟩
 case rest =>
  clear HC3
  try clear c1
  try clear p2
  try clear c6
  try clear c7
  try clear c7b0
  try clear c7b1
  try clear c7b2
  try clear c8
  try clear c9
  try clear c11
  try clear c12
  try clear c14
  try clear hcz10_0
  try clear hcz10_1
  try clear hcz13_0
  try clear hcz13_1
  try clear hcz15_0
  try clear hcz15_1
  try clear hfz10_0
  try clear hfz10_1
  try clear hfz13_0
  try clear hfz13_1
  try clear hfz15_0
  try clear hfz15_1
  obtain ⟨kq, x19_2, rfl, HA, HJ2, BK189, BK190, BK191, HB⟩ := hcut
  cases kq with
  | zero => exact absurd HA.out (by simp [strap_poly_times.j0])
  | succ kj2 =>
   have H := HA.out
   clear HA
   simp only [strap_poly_times.j0] at H
   by_cases c16 : x19_2 = true
   ·subst c16
    have H1 : (some (0, ([] : List Int))) = some (r1, r2) := by rw [if_pos rfl] at H; exact H
    clear H
    have H := H1
    clear H1
    simp only [Option.some.injEq, Prod.mk.injEq] at H
    obtain ⟨rfl, rfl⟩ := H
    have hnb17 := NB191_189.out
    have hnc17 := NB189_191.out
    have hnb18 := NB191_190.out
    have hnc18 := NB190_191.out
    have hcz19_0 : wc.cell? ⟨gb191, 0, none⟩ = some (.int .i64 0) := (blk_cell BK191.out 0).trans rfl
    have hcz19_1 : wc.cell? ⟨gb191, 1, none⟩ = some (.slice none 0 0) := (blk_cell BK191.out 1).trans rfl
    have hfz19_0 := blk_frozen BK191.out 0
    have hfz19_1 := blk_frozen BK191.out 1
    go_wp2
    refine bodyPost_ret (results_cell_row rfl _ _ gb191 100 #[.int .i64 0, .slice none 0 0] (0, 0) _ rfl (by (with_reducible repeat (first | refine blk_drewN ?_ _ | refine blk_drew ?_ | refine blk_alloc ?_ _)); refine blk_put (cs := #[.int .i64 0, .slice none 0 0]) ?_ 1 _ rfl; (with_reducible repeat (first | refine blk_drewN ?_ _ | refine blk_drew ?_ | refine blk_alloc ?_ _)); refine blk_put (cs := #[.int .i64 0, .slice none 0 0]) ?_ 0 _ rfl; (with_reducible repeat (first | refine blk_drewN ?_ _ | refine blk_drew ?_ | refine blk_alloc ?_ _)); exact BK191.out) Try.underlying100 rfl (by kernel_rfl)) rfl ?_
    exact ⟨_, by first | rfl | (simp [errW_none, errW_some] <;> rfl) | (simp [*, errW_none, errW_some] <;> rfl), by first | exact Kd.R_nil _ _ _ _ _ | exact Kd.N_nil _ _ _ _ _ | exact Kd.V_nil _ _ _ _ _ | exact Kd.Q_nil _ _ _ _ _ | exact Kd.S_nil _ _ _ _ _, by repeat (first | (with_reducible first | exact HB.out | apply below_alloc | apply pw_below_drewN | apply below_drew1 | refine below_set ?_ GE189.out | refine below_set ?_ GE190.out | refine below_set ?_ GE191.out) | exact HB.out)⟩
   ·replace c16 := Bool.eq_false_iff.mpr c16
    subst c16
    have H1 : (if 0 ≤ (wrap64 ((wrap64 ((l0_1.length : Int) + (l1_1.length : Int))) - 1)) then (if (wrap64 ((wrap64 ((l0_1.length : Int) + (l1_1.length : Int))) - 1) : Int).toNat ≤ 35184372088832 then (strap_poly_times.l0 kj2 l0_1 (l0_1.length : Int) 0 a1_0 l1_1 (wrap64 (a0_0 + a1_0)) (List.replicate (wrap64 ((wrap64 ((l0_1.length : Int) + (l1_1.length : Int))) - 1) : Int).toNat 0)) else (none)) else (none)) = some (r1, r2) := by rw [if_neg (show ¬ (false = true) by decide)] at H; exact H
    clear H
    have H := H1
    clear H1
    obtain ⟨ji20, hji20⟩ : ∃ j_ : Int, (wrap64 ((wrap64 ((l0_1.length : Int) + (l1_1.length : Int))) - 1)) = j_ := ⟨_, rfl⟩
    replace H : (if 0 ≤ (ji20) then (if (ji20 : Int).toNat ≤ 35184372088832 then (strap_poly_times.l0 kj2 l0_1 (l0_1.length : Int) 0 a1_0 l1_1 (wrap64 (a0_0 + a1_0)) (List.replicate (ji20 : Int).toNat 0)) else (none)) else (none)) = some (r1, r2) := by first | (rw [hji20] at H; exact H) | (simp only [hji20] at H ⊢; exact H)
    have hji20w : (IntKind.i64.wrap ((wrap64 ((l0_1.length : Int) + (l1_1.length : Int))) - 1)) = ji20 := (i64_w _).trans hji20
    by_cases c21 : 0 ≤ (ji20)
    ·rw [if_pos c21] at H
     have c21b0 := eq_true c21
     have c21b1 : decide (0 ≤ (ji20)) = true := decide_eq_true c21
     clear c21
     by_cases c22 : (ji20 : Int).toNat ≤ 35184372088832
     ·rw [if_pos c22] at H
      have c22b0 := eq_true c22
      have c22b1 : decide ((ji20 : Int).toNat ≤ 35184372088832) = true := decide_eq_true c22
      clear c22
      obtain ⟨y192, hy192⟩ : ∃ y_ : List Int, y_ = (List.replicate (ji20 : Int).toNat 0) := ⟨_, rfl⟩
      replace H : (strap_poly_times.l0 kj2 l0_1 (l0_1.length : Int) 0 a1_0 l1_1 (wrap64 (a0_0 + a1_0)) y192) = some (r1, r2) := by first | (rw [hy192]; with_reducible exact H) | (have H2_ := (Option.bind_some _ _).symm.trans H; rw [hy192]; with_reducible exact H2_) | (have H2_ := (Option.bind_some _ _).symm.trans H; with_reducible exact H2_) | with_reducible exact H | (rw [hy192]; exact H) | exact H
      have Ny192 := Aside0.mk hy192
      clear hy192
      have H' := Aside0.mk H
      clear H
      try go_wp2
      have n0_ := Aside0.mk (blk_drew BK189.out)
      have n1_ := Aside0.mk (blk_drew BK190.out)
      have n2_ := Aside0.mk (blk_drew BK191.out)
      have n3_ := Aside0.mk (below_drew1 HB.out)
      clear BK189 BK190 BK191 HB
      have BK189 := n0_; have BK190 := n1_; have BK191 := n2_; have HB := n3_
      clear n0_ n1_ n2_ n3_
      refine start_ (n := 17) (S := fun w' => w'.cell? ⟨gb189, 0, none⟩ = some (.int .i64 a0_0) ∧ w'.cell? ⟨gb189, 1, none⟩ = some (.slice A0_1 l0_1.length c0_1) ∧ w'.cell? ⟨gb190, 0, none⟩ = some (.int .i64 a1_0) ∧ w'.cell? ⟨gb190, 1, none⟩ = some (.slice A1_1 l1_1.length c1_1)) (ds := []) #[false, false, false, false, false, false, false, false, false, false, false, false, false, false, false, false, false] (by kernel_rfl) rfl rfl ⟨(blk_cell BK189.out 0).trans rfl, (blk_cell BK189.out 1).trans rfl, (blk_cell BK190.out 0).trans rfl, (blk_cell BK190.out 1).trans rfl⟩ (fun hHeld => ?_); refine with_tabW strap_poly_times.tab3 strap_poly_times.bits3 (fun HT_ HW_ => ?_)
      generalize wc.drew = w23 at BK189 BK190 BK191 HB hHeld ⊢
      refine pr 0 21 HT_ ?_
      refine pr 2 23 HT_ ?_
      refine pr 5 26 HT_ ?_
      refine pr 8 29 HT_ ?_
      refine tr 1 22 HT_ HW_ hHeld ?_
      refine tr 3 24 HT_ HW_ hHeld ?_
      refine pr 4 25 HT_ ?_
      refine tr 6 27 HT_ HW_ hHeld ?_
      refine pr 7 28 HT_ ?_
      refine tr 9 30 HT_ HW_ hHeld ?_
      refine pr 10 31 HT_ ?_
      refine pr 11 32 HT_ ?_
      refine pr 12 33 HT_ ?_
      refine join_ (σ := Value × Nat) 1 #[true, true, true, true, true, true, true, true, true, true, true, true, true, true, true, true, false] (fun s_ => [(34, s_.1), (5, .pointer (some ⟨s_.2, 0, none⟩)), (35, .agg #[.int .i64 (wrap64 (a0_0 + a1_0)), s_.1])]) (fun s_ w' => (w'.cell? ⟨gb189, 0, none⟩ = some (.int .i64 a0_0) ∧ w'.cell? ⟨gb189, 1, none⟩ = some (.slice A0_1 l0_1.length c0_1) ∧ w'.cell? ⟨gb190, 0, none⟩ = some (.int .i64 a1_0) ∧ w'.cell? ⟨gb190, 1, none⟩ = some (.slice A1_1 l1_1.length c1_1)) ∧ (Kd.R (Kd.int .i64) 3 w' w.heap.size (fun _ => True) s_.1 y192) ∧ (w'.heap[gb189]? = some (.cells #[.int .i64 a0_0, .slice A0_1 l0_1.length c0_1] 100 (0, 0))) ∧ (w'.heap[gb190]? = some (.cells #[.int .i64 a1_0, .slice A1_1 l1_1.length c1_1] 100 (0, 0))) ∧ (w'.heap[gb191]? = some (.cells #[.int .i64 0, .slice none 0 0] 100 (0, 0))) ∧ (w'.heap[s_.2]? = some (.cells #[.int .i64 0, .slice none 0 0] 100 (0, 0))) ∧ (w.heap.size ≤ s_.2) ∧ (w.heap.size ≤ s_.2) ∧ (gb189 ≠ s_.2) ∧ (s_.2 ≠ gb189) ∧ (gb190 ≠ s_.2) ∧ (s_.2 ≠ gb190) ∧ (gb191 ≠ s_.2) ∧ (s_.2 ≠ gb191) ∧ (Below w.heap.size w w')) ?_ ?_
      rotate_left
      ·intro hCont
       refine two_ (i := 13) (j := 15) (Ni := some 34) (Nj := some 5) #[true, true, true, true, true, true, true, true, true, true, true, true, true, true, false, false, false] #[true, true, true, true, true, true, true, true, true, true, true, true, true, false, false, true, false] rfl rfl rfl rfl (two_of HT_.out (by kernel_rfl)) (by decide) (by decide) (fun K hK => ?_) (fun K hK => ?_)
       ·skip
        refine Kd.R_make_step (Kd.int .i64) _ 3 (by rfl) (N := 34) rfl 22 _ _ rfl ji20 rfl rfl Try.underlying22 (.int .i64 0) 8 info3 rfl (by decide) (by omega) 0 (ok := fun _ => True) (okp := fun _ => True) rfl (fun _ hk => hk) trivial (ofd) (Nat.le_trans (Nat.mul_le_mul_right _ (ofd : ji20.toNat ≤ 35184372088832)) (by omega)) (Below.refl _ _) (Nat.le_refl _) ?_
        intro v193 w24 ho25 hb hg_ hnew_
        clear hg_ hnew_
        (first | rw [← Ny192.out] at ho25 | (simp only [Int.reduceToNat] at ho25; rw [← Ny192.out] at ho25))
        have n0_ := Aside0.mk (Kd.R_lower ho25 (below_size (bl HB)))
        have n1_ := Aside0.mk (blk_below (g := gb189) (o := .cells #[.int .i64 a0_0, .slice A0_1 l0_1.length c0_1] 100 (0, 0)) (bk BK189) hb)
        have n2_ := Aside0.mk (blk_below (g := gb190) (o := .cells #[.int .i64 a1_0, .slice A1_1 l1_1.length c1_1] 100 (0, 0)) (bk BK190) hb)
        have n3_ := Aside0.mk (blk_below (g := gb191) (o := .cells #[.int .i64 0, .slice none 0 0] 100 (0, 0)) (bk BK191) hb)
        have n4_ := Aside0.mk (below_step (bl HB) hb)
        clear BK189 BK190 BK191 HB
        have HO194 := n0_; have BK189 := n1_; have BK190 := n2_; have BK191 := n3_; have HB := n4_
        clear n0_ n1_ n2_ n3_ n4_ hb ho25
        obtain ⟨Ao26, co26, eo26⟩ := Kd.R_slice HO194.out
        (first | subst eo26 | (injection eo26 with f1_ f2_ f3_; have f4_ := f1_.symm; have f5_ := f3_.symm; clear f1_ f2_ f3_; subst f4_; subst f5_))
        refine hK.out _ _ ⟨(blk_cell BK189.out 0).trans rfl, (blk_cell BK189.out 1).trans rfl, (blk_cell BK190.out 0).trans rfl, (blk_cell BK190.out 1).trans rfl⟩ (fun hHeld => ?_)
        clear hK K
        refine nr (some 34) ?_
        refine pr 14 35 HT_ ?_
        refine on 15 (some 5) HT_ (fun K hK => ?_)
        refine box_step ?hg (N := 5) ?hd (cs := #[.int .i64 0, .slice none 0 0]) (t := 100) ?hr ?_; (case hd => rfl); (case hg => rfl); (case hr => first | (go_simp; done) | (go_simp; rfl))
        intro gb195 hg w27 hbox hb
        have n0_ := Aside0.mk (Kd.R_below (rl HO194) hb)
        have n1_ := Aside0.mk (blk_below (g := gb189) (o := .cells #[.int .i64 a0_0, .slice A0_1 l0_1.length c0_1] 100 (0, 0)) (bk BK189) hb)
        have n2_ := Aside0.mk (blk_below (g := gb190) (o := .cells #[.int .i64 a1_0, .slice A1_1 l1_1.length c1_1] 100 (0, 0)) (bk BK190) hb)
        have n3_ := Aside0.mk (blk_below (g := gb191) (o := .cells #[.int .i64 0, .slice none 0 0] 100 (0, 0)) (bk BK191) hb)
        have n4_ := Aside0.mk (below_step (bl HB) hb)
        have n5_ := Aside0.mk (hbox)
        have n6_ := Aside0.mk ((by rw [hg]; exact (below_size (bl HB)) : w.heap.size ≤ gb195))
        have n7_ := Aside0.mk ((by rw [hg]; exact (below_size (bl HB)) : w.heap.size ≤ gb195))
        have n8_ := Aside0.mk ((by rw [hg]; exact Nat.ne_of_lt (blk_lt (g := gb189) (o := .cells #[.int .i64 a0_0, .slice A0_1 l0_1.length c0_1] 100 (0, 0)) (bk BK189)) : gb189 ≠ gb195))
        have n9_ := Aside0.mk ((by rw [hg]; exact Nat.ne_of_gt (blk_lt (g := gb189) (o := .cells #[.int .i64 a0_0, .slice A0_1 l0_1.length c0_1] 100 (0, 0)) (bk BK189)) : gb195 ≠ gb189))
        have n10_ := Aside0.mk ((by rw [hg]; exact Nat.ne_of_lt (blk_lt (g := gb190) (o := .cells #[.int .i64 a1_0, .slice A1_1 l1_1.length c1_1] 100 (0, 0)) (bk BK190)) : gb190 ≠ gb195))
        have n11_ := Aside0.mk ((by rw [hg]; exact Nat.ne_of_gt (blk_lt (g := gb190) (o := .cells #[.int .i64 a1_0, .slice A1_1 l1_1.length c1_1] 100 (0, 0)) (bk BK190)) : gb195 ≠ gb190))
        have n12_ := Aside0.mk ((by rw [hg]; exact Nat.ne_of_lt (blk_lt (g := gb191) (o := .cells #[.int .i64 0, .slice none 0 0] 100 (0, 0)) (bk BK191)) : gb191 ≠ gb195))
        have n13_ := Aside0.mk ((by rw [hg]; exact Nat.ne_of_gt (blk_lt (g := gb191) (o := .cells #[.int .i64 0, .slice none 0 0] 100 (0, 0)) (bk BK191)) : gb195 ≠ gb191))
        clear HO194 BK189 BK190 BK191 HB
        have HO194 := n0_; have BK189 := n1_; have BK190 := n2_; have BK191 := n3_; have HB := n4_; have BK195 := n5_; have GW195 := n6_; have GE195 := n7_; have NB189_195 := n8_; have NB195_189 := n9_; have NB190_195 := n10_; have NB195_190 := n11_; have NB191_195 := n12_; have NB195_191 := n13_
        clear n0_ n1_ n2_ n3_ n4_ n5_ n6_ n7_ n8_ n9_ n10_ n11_ n12_ n13_ hb hbox hg
        refine hK.out _ _ ⟨(blk_cell BK189.out 0).trans rfl, (blk_cell BK189.out 1).trans rfl, (blk_cell BK190.out 0).trans rfl, (blk_cell BK190.out 1).trans rfl⟩ (fun hHeld => ?_)
        clear hK K
        refine nr (some 5) ?_
        exact norm_ (by simp only [putAll, Act.put, List.setIfInBounds_toArray, List.set_cons_zero, List.set_cons_succ]) (hCont (.slice Ao26 y192.length co26, gb195) _ ⟨hHeld, (rl HO194), (bk BK189), (bk BK190), (bk BK191), (bk BK195), GW195.out, GE195.out, NB189_195.out, NB195_189.out, NB190_195.out, NB195_190.out, NB191_195.out, NB195_191.out, (bl HB)⟩)
       ·skip
        refine box_step ?hg (N := 5) ?hd (cs := #[.int .i64 0, .slice none 0 0]) (t := 100) ?hr ?_; (case hd => rfl); (case hg => rfl); (case hr => first | (go_simp; done) | (go_simp; rfl))
        intro gb195 hg w24 hbox hb
        have n0_ := Aside0.mk (blk_below (g := gb189) (o := .cells #[.int .i64 a0_0, .slice A0_1 l0_1.length c0_1] 100 (0, 0)) (bk BK189) hb)
        have n1_ := Aside0.mk (blk_below (g := gb190) (o := .cells #[.int .i64 a1_0, .slice A1_1 l1_1.length c1_1] 100 (0, 0)) (bk BK190) hb)
        have n2_ := Aside0.mk (blk_below (g := gb191) (o := .cells #[.int .i64 0, .slice none 0 0] 100 (0, 0)) (bk BK191) hb)
        have n3_ := Aside0.mk (below_step (bl HB) hb)
        have n4_ := Aside0.mk (hbox)
        have n5_ := Aside0.mk ((by rw [hg]; exact (below_size (bl HB)) : w.heap.size ≤ gb195))
        have n6_ := Aside0.mk ((by rw [hg]; exact (below_size (bl HB)) : w.heap.size ≤ gb195))
        have n7_ := Aside0.mk ((by rw [hg]; exact Nat.ne_of_lt (blk_lt (g := gb189) (o := .cells #[.int .i64 a0_0, .slice A0_1 l0_1.length c0_1] 100 (0, 0)) (bk BK189)) : gb189 ≠ gb195))
        have n8_ := Aside0.mk ((by rw [hg]; exact Nat.ne_of_gt (blk_lt (g := gb189) (o := .cells #[.int .i64 a0_0, .slice A0_1 l0_1.length c0_1] 100 (0, 0)) (bk BK189)) : gb195 ≠ gb189))
        have n9_ := Aside0.mk ((by rw [hg]; exact Nat.ne_of_lt (blk_lt (g := gb190) (o := .cells #[.int .i64 a1_0, .slice A1_1 l1_1.length c1_1] 100 (0, 0)) (bk BK190)) : gb190 ≠ gb195))
        have n10_ := Aside0.mk ((by rw [hg]; exact Nat.ne_of_gt (blk_lt (g := gb190) (o := .cells #[.int .i64 a1_0, .slice A1_1 l1_1.length c1_1] 100 (0, 0)) (bk BK190)) : gb195 ≠ gb190))
        have n11_ := Aside0.mk ((by rw [hg]; exact Nat.ne_of_lt (blk_lt (g := gb191) (o := .cells #[.int .i64 0, .slice none 0 0] 100 (0, 0)) (bk BK191)) : gb191 ≠ gb195))
        have n12_ := Aside0.mk ((by rw [hg]; exact Nat.ne_of_gt (blk_lt (g := gb191) (o := .cells #[.int .i64 0, .slice none 0 0] 100 (0, 0)) (bk BK191)) : gb195 ≠ gb191))
        clear BK189 BK190 BK191 HB
        have BK189 := n0_; have BK190 := n1_; have BK191 := n2_; have HB := n3_; have BK195 := n4_; have GW195 := n5_; have GE195 := n6_; have NB189_195 := n7_; have NB195_189 := n8_; have NB190_195 := n9_; have NB195_190 := n10_; have NB191_195 := n11_; have NB195_191 := n12_
        clear n0_ n1_ n2_ n3_ n4_ n5_ n6_ n7_ n8_ n9_ n10_ n11_ n12_ hb hbox hg
        refine hK.out _ _ ⟨(blk_cell BK189.out 0).trans rfl, (blk_cell BK189.out 1).trans rfl, (blk_cell BK190.out 0).trans rfl, (blk_cell BK190.out 1).trans rfl⟩ (fun hHeld => ?_)
        clear hK K
        refine nr (some 5) ?_
        refine on 13 (some 34) HT_ (fun K hK => ?_)
        refine Kd.R_make_step (Kd.int .i64) _ 3 (by rfl) (N := 34) rfl 22 _ _ rfl ji20 rfl rfl Try.underlying22 (.int .i64 0) 8 info3 rfl (by decide) (by omega) 0 (ok := fun _ => True) (okp := fun _ => True) rfl (fun _ hk => hk) trivial (ofd) (Nat.le_trans (Nat.mul_le_mul_right _ (ofd : ji20.toNat ≤ 35184372088832)) (by omega)) (Below.refl _ _) (Nat.le_refl _) ?_
        intro v193 w25 ho26 hb hg_ hnew_
        clear hg_ hnew_
        (first | rw [← Ny192.out] at ho26 | (simp only [Int.reduceToNat] at ho26; rw [← Ny192.out] at ho26))
        have n0_ := Aside0.mk (Kd.R_lower ho26 (below_size (bl HB)))
        have n1_ := Aside0.mk (blk_below (g := gb189) (o := .cells #[.int .i64 a0_0, .slice A0_1 l0_1.length c0_1] 100 (0, 0)) (bk BK189) hb)
        have n2_ := Aside0.mk (blk_below (g := gb190) (o := .cells #[.int .i64 a1_0, .slice A1_1 l1_1.length c1_1] 100 (0, 0)) (bk BK190) hb)
        have n3_ := Aside0.mk (blk_below (g := gb191) (o := .cells #[.int .i64 0, .slice none 0 0] 100 (0, 0)) (bk BK191) hb)
        have n4_ := Aside0.mk (blk_below (g := gb195) (o := .cells #[.int .i64 0, .slice none 0 0] 100 (0, 0)) (bk BK195) hb)
        have n5_ := Aside0.mk (below_step (bl HB) hb)
        clear BK189 BK190 BK191 BK195 HB
        have HO194 := n0_; have BK189 := n1_; have BK190 := n2_; have BK191 := n3_; have BK195 := n4_; have HB := n5_
        clear n0_ n1_ n2_ n3_ n4_ n5_ hb ho26
        obtain ⟨Ao27, co27, eo27⟩ := Kd.R_slice HO194.out
        (first | subst eo27 | (injection eo27 with f1_ f2_ f3_; have f4_ := f1_.symm; have f5_ := f3_.symm; clear f1_ f2_ f3_; subst f4_; subst f5_))
        refine hK.out _ _ ⟨(blk_cell BK189.out 0).trans rfl, (blk_cell BK189.out 1).trans rfl, (blk_cell BK190.out 0).trans rfl, (blk_cell BK190.out 1).trans rfl⟩ (fun hHeld => ?_)
        clear hK K
        refine nr (some 34) ?_
        refine pr 14 35 HT_ ?_
        exact norm_ (by simp only [putAll, Act.put, List.setIfInBounds_toArray, List.set_cons_zero, List.set_cons_succ]) (hCont (.slice Ao27 y192.length co27, gb195) _ ⟨hHeld, (rl HO194), (bk BK189), (bk BK190), (bk BK191), (bk BK195), GW195.out, GE195.out, NB189_195.out, NB195_189.out, NB190_195.out, NB195_190.out, NB191_195.out, NB195_191.out, (bl HB)⟩)
      rintro ⟨v193, gb195⟩ w28 ⟨hS_, h0_, h1_, h2_, h3_, h4_, h5_, h6_, h7_, h8_, h9_, h10_, h11_, h12_, h13_⟩
      have n0_ : Aside0 (Kd.R (Kd.int .i64) 3 w28 w.heap.size (fun _ => True) v193 y192) := ⟨h0_⟩
      have n1_ : Aside0 (w28.heap[gb189]? = some (.cells #[.int .i64 a0_0, .slice A0_1 l0_1.length c0_1] 100 (0, 0))) := ⟨h1_⟩
      have n2_ : Aside0 (w28.heap[gb190]? = some (.cells #[.int .i64 a1_0, .slice A1_1 l1_1.length c1_1] 100 (0, 0))) := ⟨h2_⟩
      have n3_ : Aside0 (w28.heap[gb191]? = some (.cells #[.int .i64 0, .slice none 0 0] 100 (0, 0))) := ⟨h3_⟩
      have n4_ : Aside0 (w28.heap[gb195]? = some (.cells #[.int .i64 0, .slice none 0 0] 100 (0, 0))) := ⟨h4_⟩
      have n5_ : Aside0 (w.heap.size ≤ gb195) := ⟨h5_⟩
      have n6_ : Aside0 (w.heap.size ≤ gb195) := ⟨h6_⟩
      have n7_ : Aside0 (gb189 ≠ gb195) := ⟨h7_⟩
      have n8_ : Aside0 (gb195 ≠ gb189) := ⟨h8_⟩
      have n9_ : Aside0 (gb190 ≠ gb195) := ⟨h9_⟩
      have n10_ : Aside0 (gb195 ≠ gb190) := ⟨h10_⟩
      have n11_ : Aside0 (gb191 ≠ gb195) := ⟨h11_⟩
      have n12_ : Aside0 (gb195 ≠ gb191) := ⟨h12_⟩
      have n13_ : Aside0 (Below w.heap.size w w28) := ⟨h13_⟩
      clear BK189 BK190 BK191 HB h0_ h1_ h2_ h3_ h4_ h5_ h6_ h7_ h8_ h9_ h10_ h11_ h12_ h13_
      have HO194 := n0_; have BK189 := n1_; have BK190 := n2_; have BK191 := n3_; have BK195 := n4_; have GW195 := n5_; have GE195 := n6_; have NB189_195 := n7_; have NB195_189 := n8_; have NB190_195 := n9_; have NB195_190 := n10_; have NB191_195 := n11_; have NB195_191 := n12_; have HB := n13_
      clear n0_ n1_ n2_ n3_ n4_ n5_ n6_ n7_ n8_ n9_ n10_ n11_ n12_ n13_
      have hHeld : w28.cell? ⟨gb189, 0, none⟩ = some (.int .i64 a0_0) ∧ w28.cell? ⟨gb189, 1, none⟩ = some (.slice A0_1 l0_1.length c0_1) ∧ w28.cell? ⟨gb190, 0, none⟩ = some (.int .i64 a1_0) ∧ w28.cell? ⟨gb190, 1, none⟩ = some (.slice A1_1 l1_1.length c1_1) := hS_
      obtain ⟨Ao29, co29, eo29⟩ := Kd.R_slice HO194.out
      (first | subst eo29 | (injection eo29 with f1_ f2_ f3_; have f4_ := f1_.symm; have f5_ := f3_.symm; clear f1_ f2_ f3_; subst f4_; subst f5_))
      refine norm_ (a' := ?_) ?_ ?_
      rotate_left
      ·simp only [putAll, Act.put, List.setIfInBounds_toArray, List.set_cons_zero, List.set_cons_succ]
       rfl
      refine on 16 (none) HT_ (fun K hK => ?_)
      have hs30 : w28.cell? ⟨gb195, 0, none⟩ = some (.int .i64 0) := (blk_cell BK195.out 0).trans rfl
      have hfs30 := blk_frozen BK195.out 0
      have hns30_0 := NB189_195.out
      have hns30_1 := NB190_195.out
      have hns30_2 := NB191_195.out
      have hms30_0 := NB195_189.out
      have hms30_1 := NB195_190.out
      have hms30_2 := NB195_191.out
      have hs31 : w28.cell? ⟨gb195, 1, none⟩ = some (.slice none 0 0) := (blk_cell BK195.out 1).trans rfl
      have hfs31 := blk_frozen BK195.out 1
      have hns31_0 := NB189_195.out
      have hns31_1 := NB190_195.out
      have hns31_2 := NB191_195.out
      have hms31_0 := NB195_189.out
      have hms31_1 := NB195_190.out
      have hms31_2 := NB195_191.out
      refine sk ?_
      refine hK.out _ _ ⟨((cell_far (p := ⟨gb195, _, none⟩) NB189_195.out _).trans (((cell_far (p := ⟨gb195, _, none⟩) NB189_195.out _).trans (hHeld.1)))), ((cell_far (p := ⟨gb195, _, none⟩) NB189_195.out _).trans (((cell_far (p := ⟨gb195, _, none⟩) NB189_195.out _).trans (hHeld.2.1)))), ((cell_far (p := ⟨gb195, _, none⟩) NB190_195.out _).trans (((cell_far (p := ⟨gb195, _, none⟩) NB190_195.out _).trans (hHeld.2.2.1)))), ((cell_far (p := ⟨gb195, _, none⟩) NB190_195.out _).trans (((cell_far (p := ⟨gb195, _, none⟩) NB190_195.out _).trans (hHeld.2.2.2))))⟩ (fun hHeld => ?_)
      clear hK K
      refine dn HT_ ?_
      have hnb32 := NB189_190.out
      have hnc32 := NB190_189.out
      have hnb33 := NB189_191.out
      have hnc33 := NB191_189.out
      have hnb34 := NB189_195.out
      have hnc34 := NB195_189.out
      have hcz35_0 : w28.cell? ⟨gb189, 0, none⟩ = some (.int .i64 a0_0) := (blk_cell BK189.out 0).trans rfl
      have hcz35_1 : w28.cell? ⟨gb189, 1, none⟩ = some (.slice A0_1 l0_1.length c0_1) := (blk_cell BK189.out 1).trans rfl
      have hfz35_0 := blk_frozen BK189.out 0
      have hfz35_1 := blk_frozen BK189.out 1
      try go_wp2
      go_loopg [39] kj2 (fun kq v39 w' => ∃ (x39_2 : Int) (x196001_2 : List Int) (u196001 : Value), v39 = .int .i64 x39_2 ∧ Aside0 (strap_poly_times.l0 kq l0_1 (l0_1.length : Int) x39_2 a1_0 l1_1 (wrap64 (a0_0 + a1_0)) x196001_2 = some (r1, r2)) ∧ Aside0 (kq ≤ kj2) ∧ Aside0 (Kd.R (Kd.int .i64) 3 w' w.heap.size (fun _ => True) u196001 x196001_2) ∧ Aside0 (w'.heap[gb189]? = some (.cells #[.int .i64 a0_0, (.slice A0_1 l0_1.length c0_1)] 100 (0, 0))) ∧ Aside0 (w'.heap[gb190]? = some (.cells #[.int .i64 a1_0, (.slice A1_1 l1_1.length c1_1)] 100 (0, 0))) ∧ Aside0 (w'.heap[gb191]? = some (.cells #[.int .i64 0, (.slice none 0 0)] 100 (0, 0))) ∧ Aside0 (w'.heap[gb195]? = some (.cells #[.int .i64 (wrap64 (a0_0 + a1_0)), u196001] 100 (0, 0))) ∧ Aside0 (Below w.heap.size w w'))
      case atStart => exact ⟨(0), (y192), (.slice Ao29 y192.length co29), (by first | rfl | (simp; done) | (simp [*]; done)), H', ⟨Nat.le_refl _⟩, ⟨by (with_reducible repeat (first | apply Kd.R_alloc | apply Kd.R_drewN | apply Kd.R_drew)); exact Kd.R_mono (Kd.R_far (p := ⟨gb195, 1, none⟩) (Kd.R_far (p := ⟨gb195, 0, none⟩) (Kd.R_types HO194.out BK195.out (by decide)) (fun _ hk => hk.2) (.int .i64 (wrap64 (a0_0 + a1_0)))) (fun _ hk => hk.2) (.slice Ao29 y192.length co29)) (fun _ hk => trivial)⟩, ⟨by (with_reducible repeat (first | refine blk_drewN ?_ _ | refine blk_drew ?_ | refine blk_alloc ?_ _)); refine blk_far ?_ NB189_195.out _; (with_reducible repeat (first | refine blk_drewN ?_ _ | refine blk_drew ?_ | refine blk_alloc ?_ _)); refine blk_far ?_ NB189_195.out _; (with_reducible repeat (first | refine blk_drewN ?_ _ | refine blk_drew ?_ | refine blk_alloc ?_ _)); exact BK189.out⟩, ⟨by (with_reducible repeat (first | refine blk_drewN ?_ _ | refine blk_drew ?_ | refine blk_alloc ?_ _)); refine blk_far ?_ NB190_195.out _; (with_reducible repeat (first | refine blk_drewN ?_ _ | refine blk_drew ?_ | refine blk_alloc ?_ _)); refine blk_far ?_ NB190_195.out _; (with_reducible repeat (first | refine blk_drewN ?_ _ | refine blk_drew ?_ | refine blk_alloc ?_ _)); exact BK190.out⟩, ⟨by (with_reducible repeat (first | refine blk_drewN ?_ _ | refine blk_drew ?_ | refine blk_alloc ?_ _)); refine blk_far ?_ NB191_195.out _; (with_reducible repeat (first | refine blk_drewN ?_ _ | refine blk_drew ?_ | refine blk_alloc ?_ _)); refine blk_far ?_ NB191_195.out _; (with_reducible repeat (first | refine blk_drewN ?_ _ | refine blk_drew ?_ | refine blk_alloc ?_ _)); exact BK191.out⟩, ⟨by (with_reducible repeat (first | refine blk_drewN ?_ _ | refine blk_drew ?_ | refine blk_alloc ?_ _)); refine blk_put (cs := #[.int .i64 (wrap64 (a0_0 + a1_0)), .slice none 0 0]) ?_ 1 _ rfl; (with_reducible repeat (first | refine blk_drewN ?_ _ | refine blk_drew ?_ | refine blk_alloc ?_ _)); refine blk_put (cs := #[.int .i64 0, .slice none 0 0]) ?_ 0 _ rfl; (with_reducible repeat (first | refine blk_drewN ?_ _ | refine blk_drew ?_ | refine blk_alloc ?_ _)); exact BK195.out⟩, ⟨bl HB⟩⟩
      case round =>
       clear H'
       try clear c1
       try clear c2
       try clear p2
       try clear c3
       try clear c6
       try clear p6
       try clear c7
       try clear c7b0
       try clear c7b1
       try clear c7b2
       try clear c8
       try clear c9
       try clear c11
       try clear c12
       try clear c14
       try clear c16
       try clear c17
       try clear c18
       try clear c21
       try clear c21b0
       try clear c21b1
       try clear c22
       try clear c22b0
       try clear c22b1
       try clear c32
       try clear c33
       try clear c34
       try clear hcz10_0
       try clear hcz10_1
       try clear hcz13_0
       try clear hcz13_1
       try clear hcz15_0
       try clear hcz15_1
       try clear hcz19_0
       try clear hcz19_1
       try clear hcz35_0
       try clear hcz35_1
       try clear hfz10_0
       try clear hfz10_1
       try clear hfz13_0
       try clear hfz13_1
       try clear hfz15_0
       try clear hfz15_1
       try clear hfz19_0
       try clear hfz19_1
       try clear hfz35_0
       try clear hfz35_1
       try clear p2
       obtain ⟨x39_2, x196001_2, u196001, rfl, HA, HK2, HO_196001, BK189, BK190, BK191, BK195, HB⟩ := hrel
       cases gk with
       | zero => exact absurd HA.out (by simp [strap_poly_times.l0])
       | succ k2 =>
        have H := HA.out
        clear HA
        simp only [strap_poly_times.l0] at H
        by_cases c36 : x39_2 < (l0_1.length : Int)
        ·rw [if_pos c36] at H
         have c36b0 : decide (x39_2 < (l0_1.length : Int)) = true := decide_eq_true c36
         clear c36
         by_cases c37 : 0 ≤ x39_2
         ·rw [if_pos c37] at H
          have c37b0 : decide (0 ≤ x39_2) = true := decide_eq_true c37
          clear c37
          by_cases c38 : x39_2 < (l0_1.length : Int)
          ·rw [if_pos c38] at H
           have c38b0 : decide (x39_2 < (l0_1.length : Int)) = true := decide_eq_true c38
           clear c38
           have H' := Aside0.mk H
           clear H
           have p196 : 0 ≤ (x39_2 : Int) := ofd
           have q196 : x39_2 < (l0_1.length : Int) := ofd
           obtain ⟨ad196, e196, hx196_0⟩ := Kd.at_int HR0_1.out x39_2 p196 q196
           cases e196
           replace hx196_0 := (HB.out.cell (World.block_lt_of_cell? w _ hx196_0)).trans hx196_0
           replace p196 := eq_true p196
           replace q196 := eq_true q196
           have hnb39 := NB190_189.out
           have hnc39 := NB189_190.out
           have hnb40 := NB190_191.out
           have hnc40 := NB191_190.out
           have hnb41 := NB190_195.out
           have hnc41 := NB195_190.out
           have hcz42_0 : wr.cell? ⟨gb190, 0, none⟩ = some (.int .i64 a1_0) := (blk_cell BK190.out 0).trans rfl
           have hcz42_1 : wr.cell? ⟨gb190, 1, none⟩ = some (.slice A1_1 l1_1.length c1_1) := (blk_cell BK190.out 1).trans rfl
           have hfz42_0 := blk_frozen BK190.out 0
           have hfz42_1 := blk_frozen BK190.out 1
           go_wp2
           go_loopg [47] k2 (fun kq v47 w' => ∃ (x47_3 : Int) (x196001_3 : List Int) (u196001 : Value), v47 = .int .i64 x47_3 ∧ Aside0 (strap_poly_times.l1 kq x39_2 (rd l0_1 x39_2) l0_1 (l0_1.length : Int) x39_2 l1_1 (l1_1.length : Int) x47_3 a1_0 l1_1 (wrap64 (a0_0 + a1_0)) x196001_3 = some (r1, r2)) ∧ Aside0 (kq ≤ k2) ∧ Aside0 (Kd.R (Kd.int .i64) 3 w' w.heap.size (fun _ => True) u196001 x196001_3) ∧ Aside0 (w'.heap[gb189]? = some (.cells #[.int .i64 a0_0, (.slice (some ad196) l0_1.length c0_1)] 100 (0, 0))) ∧ Aside0 (w'.heap[gb190]? = some (.cells #[.int .i64 a1_0, (.slice A1_1 l1_1.length c1_1)] 100 (0, 0))) ∧ Aside0 (w'.heap[gb191]? = some (.cells #[.int .i64 0, (.slice none 0 0)] 100 (0, 0))) ∧ Aside0 (w'.heap[gb195]? = some (.cells #[.int .i64 (wrap64 (a0_0 + a1_0)), u196001] 100 (0, 0))) ∧ Aside0 (Below w.heap.size w w'))
           case atStart => exact ⟨(0), (x196001_2), (u196001), (by first | rfl | (simp; done) | (simp [*]; done)), H', ⟨Nat.le_refl _⟩, ⟨rl HO_196001⟩, ⟨bk BK189⟩, ⟨bk BK190⟩, ⟨bk BK191⟩, ⟨bk BK195⟩, ⟨bl HB⟩⟩
           case round =>
            clear H'
            try clear c1
            try clear p1
            try clear q1
            try clear hx1
            try clear c2
            try clear p2
            try clear c3
            try clear c4
            try clear c6
            try clear p6
            try clear c7
            try clear c7b0
            try clear c7b1
            try clear c7b2
            try clear c8
            try clear c9
            try clear c11
            try clear c12
            try clear c14
            try clear c16
            try clear c17
            try clear c18
            try clear p19
            try clear q19
            try clear hx19
            try clear c21
            try clear c21b0
            try clear c21b1
            try clear c22
            try clear c22b0
            try clear c22b1
            try clear c32
            try clear c33
            try clear c34
            try clear c36
            try clear c36b0
            try clear c37
            try clear c37b0
            try clear c38
            try clear c38b0
            try clear c39
            try clear c40
            try clear c41
            try clear hcz10_0
            try clear hcz10_1
            try clear hcz13_0
            try clear hcz13_1
            try clear hcz15_0
            try clear hcz15_1
            try clear hcz19_0
            try clear hcz19_1
            try clear hcz35_0
            try clear hcz35_1
            try clear hcz42_0
            try clear hcz42_1
            try clear hfz10_0
            try clear hfz10_1
            try clear hfz13_0
            try clear hfz13_1
            try clear hfz15_0
            try clear hfz15_1
            try clear hfz19_0
            try clear hfz19_1
            try clear hfz35_0
            try clear hfz35_1
            try clear hfz42_0
            try clear hfz42_1
            try clear hx196_0
            try clear p196
            try clear p2
            try clear p6
            try clear q196
            obtain ⟨x47_3, x196001_3, u196001, rfl, HA, HK3, HO_196001, BK189, BK190, BK191, BK195, HB⟩ := hrel
            cases gk with
            | zero => exact absurd HA.out (by simp [strap_poly_times.l1])
            | succ k3 =>
             have H := HA.out
             clear HA
             simp only [strap_poly_times.l1] at H
             by_cases c43 : x47_3 < (l1_1.length : Int)
             ·rw [if_pos c43] at H
              have c43b0 : decide (x47_3 < (l1_1.length : Int)) = true := decide_eq_true c43
              clear c43
              by_cases c44 : 0 ≤ x47_3
              ·rw [if_pos c44] at H
               have c44b0 : decide (0 ≤ x47_3) = true := decide_eq_true c44
               clear c44
               by_cases c45 : x47_3 < (l1_1.length : Int)
               ·rw [if_pos c45] at H
                have c45b0 : decide (x47_3 < (l1_1.length : Int)) = true := decide_eq_true c45
                clear c45
                obtain ⟨ji46, hji46⟩ : ∃ j_ : Int, (wrap64 (x39_2 + x47_3)) = j_ := ⟨_, rfl⟩
                replace H : (if 0 ≤ (ji46) then (if (ji46) < (x196001_3.length : Int) then (strap_poly_times.l1 k3 x39_2 (rd l0_1 x39_2) l0_1 (l0_1.length : Int) x39_2 l1_1 (l1_1.length : Int) (wrap64 (x47_3 + 1)) a1_0 l1_1 (wrap64 (a0_0 + a1_0)) (x196001_3.set ((ji46) : Int).toNat (wrap64 ((rd x196001_3 (ji46)) + (wrap64 ((rd l0_1 x39_2) * (rd l1_1 x47_3))))))) else (none)) else (none)) = some (r1, r2) := by first | (rw [hji46] at H; exact H) | (simp only [hji46] at H ⊢; exact H)
                have hji46w : (IntKind.i64.wrap (x39_2 + x47_3)) = ji46 := (i64_w _).trans hji46
                by_cases c47 : 0 ≤ (ji46)
                ·rw [if_pos c47] at H
                 have c47b0 : decide (0 ≤ (ji46)) = true := decide_eq_true c47
                 clear c47
                 by_cases c48 : (ji46) < (x196001_3.length : Int)
                 ·rw [if_pos c48] at H
                  have c48b0 : decide ((ji46) < (x196001_3.length : Int)) = true := decide_eq_true c48
                  clear c48
                  obtain ⟨y199, hy199⟩ : ∃ y_ : List Int, y_ = (x196001_3.set ((ji46) : Int).toNat (wrap64 ((rd x196001_3 (ji46)) + (wrap64 ((rd l0_1 x39_2) * (rd l1_1 x47_3)))))) := ⟨_, rfl⟩
                  replace H : (strap_poly_times.l1 k3 x39_2 (rd l0_1 x39_2) l0_1 (l0_1.length : Int) x39_2 l1_1 (l1_1.length : Int) (wrap64 (x47_3 + 1)) a1_0 l1_1 (wrap64 (a0_0 + a1_0)) y199) = some (r1, r2) := by first | (rw [hy199]; with_reducible exact H) | (have H2_ := (Option.bind_some _ _).symm.trans H; rw [hy199]; with_reducible exact H2_) | (have H2_ := (Option.bind_some _ _).symm.trans H; with_reducible exact H2_) | with_reducible exact H | (rw [hy199]; exact H) | exact H
                  have Ny199 := Aside0.mk hy199
                  clear hy199
                  have H' := Aside0.mk H
                  clear H
                  have p197 : 0 ≤ (x47_3 : Int) := ofd
                  have q197 : x47_3 < (l1_1.length : Int) := ofd
                  obtain ⟨ad197, e197, hx197_0⟩ := Kd.at_int HR1_1.out x47_3 p197 q197
                  cases e197
                  replace hx197_0 := (HB.out.cell (World.block_lt_of_cell? w _ hx197_0)).trans hx197_0
                  replace p197 := eq_true p197
                  replace q197 := eq_true q197
                  have hnb50 := NB195_189.out
                  have hnc50 := NB189_195.out
                  have hnb51 := NB195_190.out
                  have hnc51 := NB190_195.out
                  have hnb52 := NB195_191.out
                  have hnc52 := NB191_195.out
                  have hcz53_0 : wr.cell? ⟨gb195, 0, none⟩ = some (.int .i64 (wrap64 (a0_0 + a1_0))) := (blk_cell BK195.out 0).trans rfl
                  have hcz53_1 : wr.cell? ⟨gb195, 1, none⟩ = some (u196001) := (blk_cell BK195.out 1).trans rfl
                  have hfz53_0 := blk_frozen BK195.out 0
                  have hfz53_1 := blk_frozen BK195.out 1
                  obtain ⟨Ao54, co54, eo54⟩ := Kd.R_slice HO_196001.out
                  subst eo54
                  have p198 : 0 ≤ ((ji46) : Int) := ofd
                  have q198 : (ji46) < (x196001_3.length : Int) := ofd
                  obtain ⟨ad198, e198, hx198_0⟩ := Kd.at_int (Kd.R_reads' HO_196001.out).2.2 (ji46) p198 q198
                  cases e198
                  replace p198 := eq_true p198
                  replace q198 := eq_true q198
                  have p49 : 0 ≤ ((ji46) : Int) := ofd
                  have q49 : ((ji46) : Int) < ((x196001_3.length : Int) : Int) := ofd
                  obtain ⟨go49, co49, eo49, gb49, gl49, cl49, HG49⟩ := Kd.R_form HO_196001.out (by omega)
                  (first | cases eo49 | (injection eo49 with ea_ en_ ec_; (first | subst ea_ | (injection ea_ with ea_; subst ea_)); subst ec_; clear en_))
                  have GB49 := Aside0.mk gb49
                  have GG49 := Aside0.mk HG49
                  clear gb49 gl49 HG49
                  (first | simp only [add_plain] at hx198_0 | skip)
                  obtain ⟨hx49_0, hf49_0⟩ := Kd.R_celln 0 HO_196001.out ((ji46) : Int) p49 q49
                  replace p49 := eq_true p49
                  replace q49 := eq_true q49
                  have HP55 := Kd.R_putg HO_196001.out ((ji46) : Int) (wrap64 ((rd x196001_3 (ji46)) + (wrap64 ((rd l0_1 x39_2) * (rd l1_1 x47_3)))))
                  go_wp2_with (first | ((with_reducible refine gate_store (t := 3) (p := 63) rfl ?_); refine store_event (t := 3) (p := 63) (v := ?vo_w56) (w1 := (wr.setCell ⟨go49, ((ji46) : Int).toNat, none⟩ (.int .i64 (wrap64 ((rd x196001_3 (ji46)) + (wrap64 ((rd l0_1 x39_2) * (rd l1_1 x47_3)))))))) ?hg ?ho ?hn ?hr ?_; (case ho => rfl); (case hg => rfl); (case hn => rfl); (case hr => first | (go_simp; done) | (go_simp; rfl)); intro w56 hw; have hg : wr.grownBy w56 (some go49) := (by rw [hw]; exact HP55.2); have hp_ : Kd.R (Kd.int .i64) 3 w56 w.heap.size (fun _ => True) (.slice (some ⟨go49, 0, none⟩) x196001_3.length co54) y199 := (by rw [hw, Ny199.out]; exact HP55.1); clear HP55; have n0_ := Aside0.mk (hp_); have n1_ := Aside0.mk (blk_grown (g := gb189) (o := .cells #[.int .i64 a0_0, .slice (some ad196) l0_1.length c0_1] 100 (0, 0)) (bk BK189) hg (Kd.R_ne HO_196001.out BK189.out (by decide))); have n2_ := Aside0.mk (blk_grown (g := gb190) (o := .cells #[.int .i64 a1_0, .slice (some ad197) l1_1.length c1_1] 100 (0, 0)) (bk BK190) hg (Kd.R_ne HO_196001.out BK190.out (by decide))); have n3_ := Aside0.mk (blk_grown (g := gb191) (o := .cells #[.int .i64 0, .slice none 0 0] 100 (0, 0)) (bk BK191) hg (Kd.R_ne HO_196001.out BK191.out (by decide))); have n4_ := Aside0.mk (blk_grown (g := gb195) (o := .cells #[.int .i64 (wrap64 (a0_0 + a1_0)), .slice (some ⟨go49, 0, none⟩) x196001_3.length co54] 100 (0, 0)) (bk BK195) hg (Kd.R_ne HO_196001.out BK195.out (by decide))); have n5_ := Aside0.mk ((by rw [hw]; exact below_set (HB.out) GB49.out : Below w.heap.size w w56)); clear HO_196001; clear BK189; clear BK190; clear BK191; clear BK195; clear HB; have HO_196001 := n0_; have BK189 := n1_; have BK190 := n2_; have BK191 := n3_; have BK195 := n4_; have HB := n5_; clear n0_ n1_ n2_ n3_ n4_ n5_; clear hg hw hp_))
                  go_roundg k3
                  case measure => have := HJ2.out; have := HK2.out; have := HK3.out; omega
                  case rel => exact ⟨(wrap64 (x47_3 + 1)), (y199), (.slice (some ⟨go49, 0, none⟩) x196001_3.length co54), (by first | rfl | (simp; done) | (simp [*]; done)), H', ⟨by have := HJ2.out; have := HK2.out; have := HK3.out; omega⟩, ⟨rl HO_196001⟩, ⟨bk BK189⟩, ⟨bk BK190⟩, ⟨bk BK191⟩, ⟨bk BK195⟩, ⟨bl HB⟩⟩
                 ·rw [if_neg c48] at H
                  exact absurd H (by simp)
                ·rw [if_neg c47] at H
                 exact absurd H (by simp)
               ·rw [if_neg c45] at H
                exact absurd H (by simp)
              ·rw [if_neg c44] at H
               exact absurd H (by simp)
             ·rw [if_neg c43] at H
              have c43b0 : decide (x47_3 < (l1_1.length : Int)) = false := decide_eq_false c43
              clear c43
              have H' := Aside0.mk H
              clear H
              go_wp2
              go_roundg k3
              case measure => have := HJ2.out; have := HK2.out; have := HK3.out; omega
              case rel => exact ⟨(wrap64 (x39_2 + 1)), (x196001_3), (u196001), (by first | rfl | (simp; done) | (simp [*]; done)), H', ⟨by have := HJ2.out; have := HK2.out; have := HK3.out; omega⟩, ⟨rl HO_196001⟩, ⟨bk BK189⟩, ⟨bk BK190⟩, ⟨bk BK191⟩, ⟨bk BK195⟩, ⟨bl HB⟩⟩
          ·rw [if_neg c38] at H
           exact absurd H (by simp)
         ·rw [if_neg c37] at H
          exact absurd H (by simp)
        ·rw [if_neg c36] at H
         have c36b0 : decide (x39_2 < (l0_1.length : Int)) = false := decide_eq_false c36
         clear c36
         simp only [Option.some.injEq, Prod.mk.injEq] at H
         obtain ⟨rfl, rfl⟩ := H
         have hnb57 := NB195_189.out
         have hnc57 := NB189_195.out
         have hnb58 := NB195_190.out
         have hnc58 := NB190_195.out
         have hnb59 := NB195_191.out
         have hnc59 := NB191_195.out
         have hcz60_0 : wr.cell? ⟨gb195, 0, none⟩ = some (.int .i64 (wrap64 (a0_0 + a1_0))) := (blk_cell BK195.out 0).trans rfl
         have hcz60_1 : wr.cell? ⟨gb195, 1, none⟩ = some (u196001) := (blk_cell BK195.out 1).trans rfl
         have hfz60_0 := blk_frozen BK195.out 0
         have hfz60_1 := blk_frozen BK195.out 1
         have hnb61 := NB191_189.out
         have hnc61 := NB189_191.out
         have hnb62 := NB191_190.out
         have hnc62 := NB190_191.out
         have hcz63_0 : wr.cell? ⟨gb191, 0, none⟩ = some (.int .i64 0) := (blk_cell BK191.out 0).trans rfl
         have hcz63_1 : wr.cell? ⟨gb191, 1, none⟩ = some (.slice none 0 0) := (blk_cell BK191.out 1).trans rfl
         have hfz63_0 := blk_frozen BK191.out 0
         have hfz63_1 := blk_frozen BK191.out 1
         obtain ⟨Ao64, co64, eo64⟩ := Kd.R_slice HO_196001.out
         subst eo64
         go_wp2
         refine bodyPost_ret (results_cell_row rfl _ _ gb191 100 #[.int .i64 (wrap64 (a0_0 + a1_0)), .slice Ao64 x196001_2.length co64] (0, 0) _ rfl (by (with_reducible repeat (first | refine blk_drewN ?_ _ | refine blk_drew ?_ | refine blk_alloc ?_ _)); refine blk_put (cs := #[.int .i64 (wrap64 (a0_0 + a1_0)), .slice none 0 0]) ?_ 1 _ rfl; (with_reducible repeat (first | refine blk_drewN ?_ _ | refine blk_drew ?_ | refine blk_alloc ?_ _)); refine blk_put (cs := #[.int .i64 0, .slice none 0 0]) ?_ 0 _ rfl; (with_reducible repeat (first | refine blk_drewN ?_ _ | refine blk_drew ?_ | refine blk_alloc ?_ _)); exact BK191.out) Try.underlying100 rfl (by kernel_rfl)) rfl ?_
         exact ⟨_, by first | rfl | (simp [errW_none, errW_some] <;> rfl) | (simp only [← hji20]; first | rfl | (simp [errW_none, errW_some] <;> rfl)) | (simp [*, errW_none, errW_some] <;> rfl), by (with_reducible repeat (first | apply Kd.R_alloc | apply Kd.R_drewN | apply Kd.R_drew)); exact Kd.R_mono (Kd.R_far (p := ⟨gb191, 1, none⟩) (Kd.R_far (p := ⟨gb191, 0, none⟩) (Kd.R_types HO_196001.out BK191.out (by decide)) (fun _ hk => hk.2) (.int .i64 (wrap64 (a0_0 + a1_0)))) (fun _ hk => hk.2) (.slice Ao64 x196001_2.length co64)) (fun _ hk => trivial), by repeat (first | (with_reducible first | exact HB.out | apply below_alloc | apply pw_below_drewN | apply below_drew1 | refine below_set ?_ GE189.out | refine below_set ?_ GE190.out | refine below_set ?_ GE191.out | refine below_set ?_ GE195.out) | exact HB.out)⟩
     ·rw [if_neg c22] at H
      exact absurd H (by simp)
    ·rw [if_neg c21] at H
     exact absurd H (by simp)
end Go.Proofs.Ytdldfdcedjmneaa.Pb

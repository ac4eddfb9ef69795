/- The declarations of Lxx26 that the claim Qi needs. -/
import Derived.Test.YtdldfdcedjmneaaQiTkP
import Derived.Test.YtdldfdcedjmneaaQiLxx0
import Derived.Test.YtdldfdcedjmneaaQiLxx1
import Derived.Test.YtdldfdcedjmneaaQiLxx2
import Derived.Test.YtdldfdcedjmneaaQiLxx10
import Derived.Test.YtdldfdcedjmneaaQiLxx18
import Derived.Test.YtdldfdcedjmneaaQiLxx19
import Derived.Test.YtdldfdcedjmneaaQiPbx8
import Derived.Test.YtdldfdcedjmneaaQiLxx25
namespace Go.Proofs.Ytdldfdcedjmneaa.Lx
open Go.RowKit Go.Proofs.Ytdldfdcedjmneaa.Own Go.Proofs.Ytdldfdcedjmneaa.Pb Go.Proofs.YtdldfdcedjmneaaW.PrintWords Go.Proofs.YtdldfdcedjmneaaW.PrintLast Go.Proofs.YtdldfdcedjmneaaW.PrintMore
attribute [local go_sem] max2_int min2_int max_two min_two max_three min_three max_four min_four
set_option linter.unusedVariables false
set_option linter.unusedSimpArgs false
mutual
noncomputable def gamplaw05_StrapIs.j0 : Nat → Int → Bool → Int → List Int → Int → Bool → Int → List (List Int) → Option (Bool)
  | 0, _, _, _, _, _, _, _, _ => none
  | k + 1, x0, x6, x7, x8, x9, x31, x617000, x617001 => if x31 = true then (if x6 = true then (some false) else (if x7 = 1 then (if (x8.length : Int) = 0 then (if x9 = 1 then ((gamplaw05_lives.f k).bind fun t623 => (some t623)) else (some false)) else (some false)) else (some false))) else ((gampref05_Is.f k x0 x617000 x617001).bind fun t624 => (if (x6 != t624) = true then (gamplaw05_StrapIs.j1 k x0 x6 x8 x9 true x617000 x617001) else (if x7 = 0 then ((gamplaw05_lives.f k).bind fun t625 => (gamplaw05_StrapIs.j1 k x0 x6 x8 x9 (!t625) x617000 x617001)) else (gamplaw05_StrapIs.j1 k x0 x6 x8 x9 true x617000 x617001))))
noncomputable def gamplaw05_StrapIs.j1 : Nat → Int → Bool → List Int → Int → Bool → Int → List (List Int) → Option (Bool)
  | 0, _, _, _, _, _, _, _ => none
  | k + 1, x0, x6, x8, x9, x62, x617000, x617001 => if x62 = true then (some false) else (if x6 = true then ((gampref05_Word.f k x0 x617000 x617001).bind fun bt626 => (if bt626.2 = true then ((gampref05_Same.f k x8 bt626.1).bind fun t630 => (if t630 = true then (some (x9 == 0)) else (some false))) else (if (x8.length : Int) = 0 then (some (x9 == 3)) else (some false)))) else (if (x8.length : Int) = 0 then (some (x9 == 2)) else (some false)))
end
noncomputable def gamplaw05_StrapIs.f (k : Nat) (a0 : Int) (a1_0 : Int) (l1_1 : List (List Int)) : Option (Bool) := (gamplaw05_few.f k a1_0 l1_1).bind fun bt612 => ((strap_Is.f k a0 bt612.1 bt612.2).bind fun bt617 => ((strap_Word.f k a0 bt612.1 bt612.2).bind fun bt619 => (if a0 < 2 then (gamplaw05_StrapIs.j0 k a0 bt617.1 bt617.2 bt619.1 bt619.2 true bt612.1 bt612.2) else (gamplaw05_StrapIs.j0 k a0 bt617.1 bt617.2 bt619.1 bt619.2 (decide (a0 > 8)) bt612.1 bt612.2))))
set_option maxHeartbeats 8000000 in
set_option maxRecDepth 100000 in
theorem gamplaw05_StrapIs.calls (k : Nat) (a0 : Int) (a1_0 : Int) (A1_1 : Option Addr) (c1_1 : Nat) (l1_1 : List (List Int)) (r : Bool) (w : World) (hr1_1 : Kd.C (Kd.slice 3 (Kd.int .i64)) w A1_1 l1_1.length l1_1) (hc1_1 : l1_1.length ≤ c1_1) (h : gamplaw05_StrapIs.f k a0 a1_0 l1_1 = some r) (hrt : r = true) :
  Calls Try.prog 14 #[.int .i64 a0, .agg #[.int .i64 a1_0, .slice A1_1 l1_1.length c1_1]] w fun e w' => e = .returned (.bool r) ∧ Below w.heap.size w w' := by
 have hu26 := Try.underlying26
 have HR1_1 := Aside0.mk hr1_1
 have HC1_1 := Aside0.mk hc1_1
 clear hr1_1 hc1_1
 have HB := Aside0.mk (Below.refl w.heap.size w)
 have H : ((gamplaw05_few.f k a1_0 l1_1).bind fun bt612 => ((strap_Is.f k a0 bt612.1 bt612.2).bind fun bt617 => ((strap_Word.f k a0 bt612.1 bt612.2).bind fun bt619 => (if a0 < 2 then (gamplaw05_StrapIs.j0 k a0 bt617.1 bt617.2 bt619.1 bt619.2 true bt612.1 bt612.2) else (gamplaw05_StrapIs.j0 k a0 bt617.1 bt617.2 bt619.1 bt619.2 (decide (a0 > 8)) bt612.1 bt612.2))))) = some r := h
 clear h
 replace H := Option.bind_eq_some_iff.mp H
 obtain ⟨⟨t612, t613⟩, A30, H⟩ := H
 replace H : ((strap_Is.f k a0 t612 t613).bind fun bt617 => ((strap_Word.f k a0 t612 t613).bind fun bt619 => (if a0 < 2 then (gamplaw05_StrapIs.j0 k a0 bt617.1 bt617.2 bt619.1 bt619.2 true t612 t613) else (gamplaw05_StrapIs.j0 k a0 bt617.1 bt617.2 bt619.1 bt619.2 (decide (a0 > 8)) t612 t613)))) = some r := H
 have A3 := Aside0.mk A30
 clear A30
 replace H := Option.bind_eq_some_iff.mp H
 obtain ⟨⟨t617, t618⟩, A40, H⟩ := H
 replace H : ((strap_Word.f k a0 t612 t613).bind fun bt619 => (if a0 < 2 then (gamplaw05_StrapIs.j0 k a0 t617 t618 bt619.1 bt619.2 true t612 t613) else (gamplaw05_StrapIs.j0 k a0 t617 t618 bt619.1 bt619.2 (decide (a0 > 8)) t612 t613))) = some r := H
 have A4 := Aside0.mk A40
 clear A40
 replace H := Option.bind_eq_some_iff.mp H
 obtain ⟨⟨t619, t622⟩, A50, H⟩ := H
 replace H : (if a0 < 2 then (gamplaw05_StrapIs.j0 k a0 t617 t618 t619 t622 true t612 t613) else (gamplaw05_StrapIs.j0 k a0 t617 t618 t619 t622 (decide (a0 > 8)) t612 t613)) = some r := H
 have A5 := Aside0.mk A50
 clear A50
 have HC6 := Aside0.mk H
 clear H
 go_enter Try.func14, Try.ntmps14
 go_upto_region 4 with (first | ((with_reducible refine gate_dst (N := 3) rfl ?_); (try (refine gate_guard (by rfl) ?_; dsimp only)); refine box_event ?hg (N := 3) ?hd (cs := #[.int .i64 a1_0, .slice A1_1 l1_1.length c1_1]) (t := 26) ?hr ?_; (case hd => rfl); (case hg => rfl); (case hr => first | (go_simp; done) | (go_simp; rfl)); intro gb611 hg w7 hbox hb; have n0_ := Aside0.mk (below_step (bl HB) hb); have n1_ := Aside0.mk (hbox); have n2_ := Aside0.mk ((by rw [hg]; exact (below_size (bl HB)) : w.heap.size ≤ gb611)); have n3_ := Aside0.mk ((by rw [hg]; exact (below_size (bl HB)) : w.heap.size ≤ gb611)); clear HB; have HB := n0_; have BK611 := n1_; have GW611 := n2_; have GE611 := n3_; clear n0_ n1_ n2_ n3_; clear hb hbox hg; have hcz8_0 : w7.cell? ⟨gb611, 0, none⟩ = some (.int .i64 a1_0) := (blk_cell BK611.out 0).trans rfl; have hcz8_1 : w7.cell? ⟨gb611, 1, none⟩ = some (.slice A1_1 l1_1.length c1_1) := (blk_cell BK611.out 1).trans rfl; have hfz8_0 := blk_frozen BK611.out 0; have hfz8_1 := blk_frozen BK611.out 1) | ((with_reducible refine gate_callee (f := 49) rfl ?_); refine gL 13 Try.func49 #[.agg #[.int .i64 a1_0, .slice A1_1 l1_1.length c1_1]] ?_; (with_reducible refine (gamplaw05_few.calls k a1_0 _ _ l1_1 t612 t613 _ ?side1 ?side2 A3.out).mono ?_); (case side1 => exact cl (Kd.C_below HR1_1.out HB.out)); (case side2 => exact HC1_1.out); rintro e w9 ⟨v614, rfl, ho0, hb⟩; refine ⟨_, rfl, ?_⟩; have n0_ := Aside0.mk (Kd.S_lower ho0 (below_size (bl HB))); have n1_ := Aside0.mk (blk_below (g := gb611) (o := .cells #[.int .i64 a1_0, .slice A1_1 l1_1.length c1_1] 26 (0, 0)) (bk BK611) hb); have n2_ := Aside0.mk (below_step (bl HB) hb); clear BK611; clear HB; have HO615 := n0_; have BK611 := n1_; have HB := n2_; clear n0_ n1_ n2_; (try clear hb); (try clear hb2); (try clear hk); (try clear hi); (try clear ho0)) | ((with_reducible refine gate_dst (N := 5) rfl ?_); (try (refine gate_guard (by rfl) ?_; dsimp only)); refine box_event ?hg (N := 5) ?hd (cs := #[.int .i64 0, .slice none 0 0]) (t := 26) ?hr ?_; (case hd => rfl); (case hg => rfl); (case hr => first | (go_simp; done) | (go_simp; rfl)); intro gb616 hg w10 hbox hb; have n0_ := Aside0.mk (Kd.S_below (by (with_reducible repeat (first | apply Kd.S_alloc | apply Kd.S_drewN | apply Kd.S_drew)); exact HO615.out) hb); have n1_ := Aside0.mk (blk_below (g := gb611) (o := .cells #[.int .i64 a1_0, .slice A1_1 l1_1.length c1_1] 26 (0, 0)) (bk BK611) hb); have n2_ := Aside0.mk (below_step (bl HB) hb); have n3_ := Aside0.mk (hbox); have n4_ := Aside0.mk ((by rw [hg]; exact (below_size (bl HB)) : w.heap.size ≤ gb616)); have n5_ := Aside0.mk ((by rw [hg]; exact (below_size (bl HB)) : w.heap.size ≤ gb616)); have n6_ := Aside0.mk ((by rw [hg]; exact Nat.ne_of_lt (blk_lt (g := gb611) (o := .cells #[.int .i64 a1_0, .slice A1_1 l1_1.length c1_1] 26 (0, 0)) (bk BK611)) : gb611 ≠ gb616)); have n7_ := Aside0.mk ((by rw [hg]; exact Nat.ne_of_gt (blk_lt (g := gb611) (o := .cells #[.int .i64 a1_0, .slice A1_1 l1_1.length c1_1] 26 (0, 0)) (bk BK611)) : gb616 ≠ gb611)); clear HO615; clear BK611; clear HB; have HO615 := n0_; have BK611 := n1_; have HB := n2_; have BK616 := n3_; have GW616 := n4_; have GE616 := n5_; have NB611_616 := n6_; have NB616_611 := n7_; clear n0_ n1_ n2_ n3_ n4_ n5_ n6_ n7_; clear hb hbox hg; have hnb11 := NB616_611.out; have hnc11 := NB611_616.out; have hcz12_0 : w10.cell? ⟨gb616, 0, none⟩ = some (.int .i64 0) := (blk_cell BK616.out 0).trans rfl; have hcz12_1 : w10.cell? ⟨gb616, 1, none⟩ = some (.slice none 0 0) := (blk_cell BK616.out 1).trans rfl; have hfz12_0 := blk_frozen BK616.out 0; have hfz12_1 := blk_frozen BK616.out 1; obtain ⟨Ao13, co13, eo13⟩ := Kd.S_slice HO615.out; subst eo13) | ((with_reducible refine gate_callee (f := 50) rfl ?_); refine gL 17 Try.func50 #[.int .i64 a0, .agg #[.int .i64 t612, .slice Ao13 t613.length co13]] ?_; (with_reducible refine (strap_Is.calls k a0 t612 _ _ t613 t617 t618 _ ?side1 ?side2 A4.out).mono ?_); (case side1 => refine (Kd.S_reads' (e := 22) (base := w.heap.size) (ok := fun k_ => True) (n := t613.length) (c := co13) ?_).2.2; exact (by (with_reducible repeat (first | apply Kd.S_alloc | apply Kd.S_drewN | apply Kd.S_drew)); exact (Kd.S_mono (Kd.S_far (p := ⟨gb616, 1, none⟩) (Kd.S_far (p := ⟨gb616, 0, none⟩) (Kd.S_types HO615.out BK616.out (by decide)) (fun _ hk => hk.2) (.int .i64 t612)) (fun _ hk => hk.2) (.slice Ao13 t613.length co13)) (fun _ h_ => h_.1)))); (case side2 => exact (Kd.S_reads' HO615.out).2.1); rintro e w14 ⟨rfl, hb⟩; refine ⟨_, rfl, ?_⟩; have n0_ := Aside0.mk (Kd.S_below (by (with_reducible repeat (first | apply Kd.S_alloc | apply Kd.S_drewN | apply Kd.S_drew)); exact (Kd.S_mono (Kd.S_far (p := ⟨gb616, 1, none⟩) (Kd.S_far (p := ⟨gb616, 0, none⟩) (Kd.S_types HO615.out BK616.out (by decide)) (fun _ hk => hk.2) (.int .i64 t612)) (fun _ hk => hk.2) (.slice Ao13 t613.length co13)) (fun _ h_ => h_.1))) hb); have n1_ := Aside0.mk (blk_below (g := gb611) (o := .cells #[.int .i64 a1_0, .slice A1_1 l1_1.length c1_1] 26 (0, 0)) (by (with_reducible repeat (first | refine blk_drewN ?_ _ | refine blk_drew ?_ | refine blk_alloc ?_ _)); refine blk_far ?_ NB611_616.out _; (with_reducible repeat (first | refine blk_drewN ?_ _ | refine blk_drew ?_ | refine blk_alloc ?_ _)); refine blk_far ?_ NB611_616.out _; (with_reducible repeat (first | refine blk_drewN ?_ _ | refine blk_drew ?_ | refine blk_alloc ?_ _)); exact BK611.out) hb); have n2_ := Aside0.mk (blk_below (g := gb616) (o := .cells #[.int .i64 t612, .slice Ao13 t613.length co13] 26 (0, 0)) (by (with_reducible repeat (first | refine blk_drewN ?_ _ | refine blk_drew ?_ | refine blk_alloc ?_ _)); refine blk_put (cs := #[.int .i64 t612, .slice none 0 0]) ?_ 1 _ rfl; (with_reducible repeat (first | refine blk_drewN ?_ _ | refine blk_drew ?_ | refine blk_alloc ?_ _)); refine blk_put (cs := #[.int .i64 0, .slice none 0 0]) ?_ 0 _ rfl; (with_reducible repeat (first | refine blk_drewN ?_ _ | refine blk_drew ?_ | refine blk_alloc ?_ _)); exact BK616.out) hb); have n3_ := Aside0.mk (below_step (bl HB) hb); clear HO615; clear BK611; clear BK616; clear HB; have HO615 := n0_; have BK611 := n1_; have BK616 := n2_; have HB := n3_; clear n0_ n1_ n2_ n3_; (try clear hb); (try clear hb2); (try clear hk); (try clear hi); have hcz15_0 : w14.cell? ⟨gb616, 0, none⟩ = some (.int .i64 t612) := (blk_cell BK616.out 0).trans rfl; have hcz15_1 : w14.cell? ⟨gb616, 1, none⟩ = some (.slice Ao13 t613.length co13) := (blk_cell BK616.out 1).trans rfl; have hfz15_0 := blk_frozen BK616.out 0; have hfz15_1 := blk_frozen BK616.out 1) | ((with_reducible refine gate_callee (f := 51) rfl ?_); refine gL 23 Try.func51 #[.int .i64 a0, .agg #[.int .i64 t612, .slice Ao13 t613.length co13]] ?_; (with_reducible refine (strap_Word.calls k a0 t612 _ _ t613 t619 t622 _ ?side1 ?side2 A5.out).mono ?_); (case side1 => exact cl ((Kd.S_reads' HO615.out).2.2)); (case side2 => exact (Kd.S_reads' HO615.out).2.1); rintro e w16 ⟨v620, rfl, ho0, hb⟩; refine ⟨_, rfl, ?_⟩; have n0_ := Aside0.mk (Kd.S_elder' (by (with_reducible repeat (first | apply Kd.S_alloc | apply Kd.S_drewN | apply Kd.S_drew)); exact HO615.out) (Kd.R_base ho0) hb); have n1_ := Aside0.mk (Kd.R_lower ho0 (below_size (bl HB))); have n2_ := Aside0.mk (blk_below (g := gb611) (o := .cells #[.int .i64 a1_0, .slice A1_1 l1_1.length c1_1] 26 (0, 0)) (bk BK611) hb); have n3_ := Aside0.mk (blk_below (g := gb616) (o := .cells #[.int .i64 t612, .slice Ao13 t613.length co13] 26 (0, 0)) (bk BK616) hb); have n4_ := Aside0.mk (below_step (bl HB) hb); clear HO615; clear BK611; clear BK616; clear HB; have HO615 := n0_; have HO621 := n1_; have BK611 := n2_; have BK616 := n3_; have HB := n4_; clear n0_ n1_ n2_ n3_ n4_; (try clear hb); (try clear hb2); (try clear hk); (try clear hi); (try clear ho0)))
 (try simp only [Act.put, List.setIfInBounds_toArray, List.set_cons_zero, List.set_cons_succ])
 go_cut [31] (fun v31 wc => ∃ (kq : Nat) (x31_5 : Bool), v31 = .bool x31_5 ∧ Aside0 (gamplaw05_StrapIs.j0 kq a0 t617 t618 t619 t622 x31_5 t612 t613 = some r) ∧ Aside0 (kq ≤ k) ∧ Aside0 (Kd.R (Kd.int .i64) 3 wc w.heap.size (fun _ => True) v620 t619) ∧ Aside0 (Kd.S (Kd.slice 3 (Kd.int .i64)) 22 wc w.heap.size (fun k_ => some k_ ≠ (v620 : Value).ownBlock) (.slice Ao13 t613.length co13) t613) ∧ Aside0 (wc.heap[gb611]? = some (.cells #[.int .i64 a1_0, (.slice A1_1 l1_1.length c1_1)] 26 (0, 0))) ∧ Aside0 (wc.heap[gb616]? = some (.cells #[.int .i64 t612, (.slice Ao13 t613.length co13)] 26 (0, 0))) ∧ Aside0 (Below w.heap.size w wc))
 case first =>
  have H := HC6.out
  clear HC6
  by_cases c17 : a0 < 2
  ·rw [if_pos c17] at H
   have c17b0 : decide (a0 < 2) = true := decide_eq_true c17
   clear c17
   (first | rw [c17b0] | (simp only [i64_w, i32_w]; rw [c17b0]) | skip)
   have H' := Aside0.mk H
   clear H
   go_wp2
   go_meet
   case rel => exact ⟨_, (true), (by first | rfl | (simp; done) | (simp [*]; done)), H', ⟨by first | omega | exact Nat.le_refl _⟩, ⟨rl HO621⟩, ⟨by (with_reducible repeat (first | apply Kd.S_alloc | apply Kd.S_drewN | apply Kd.S_drew)); exact Kd.S_mono HO615.out (fun _ hk => hk.2)⟩, ⟨bk BK611⟩, ⟨bk BK616⟩, ⟨bl HB⟩⟩
  ·rw [if_neg c17] at H
   have c17b0 : decide (a0 < 2) = false := decide_eq_false c17
   clear c17
   (first | rw [c17b0] | (simp only [i64_w, i32_w]; rw [c17b0]) | skip)
   have H' := Aside0.mk H
   clear H
   go_wp2
   go_meet
   case rel => exact ⟨_, (decide (a0 > 8)), (by first | rfl | (simp; done) | (simp [*]; done)), H', ⟨by first | omega | exact Nat.le_refl _⟩, ⟨rl HO621⟩, ⟨by (with_reducible repeat (first | apply Kd.S_alloc | apply Kd.S_drewN | apply Kd.S_drew)); exact Kd.S_mono HO615.out (fun _ hk => hk.2)⟩, ⟨bk BK611⟩, ⟨bk BK616⟩, ⟨bl HB⟩⟩
 case rest =>
  clear HC6
  try clear c1
  try clear p2
  try clear c4
  try clear c5
  try clear c11
  try clear c14
  try clear c17
  try clear c17b0
  try clear hcz12_0
  try clear hcz12_1
  try clear hcz15_0
  try clear hcz15_1
  try clear hcz8_0
  try clear hcz8_1
  try clear hfz12_0
  try clear hfz12_1
  try clear hfz15_0
  try clear hfz15_1
  try clear hfz8_0
  try clear hfz8_1
  obtain ⟨kq, x31_5, rfl, HA, HJ5, HO_8, HO_617001, BK611, BK616, HB⟩ := hcut
  cases kq with
  | zero => exact absurd HA.out (by simp [gamplaw05_StrapIs.j0])
  | succ kj5 =>
   have H := HA.out
   clear HA
   simp only [gamplaw05_StrapIs.j0] at H
   by_cases c18 : x31_5 = true
   ·subst c18
    have H1 : (if t617 = true then (some false) else (if t618 = 1 then (if (t619.length : Int) = 0 then (if t622 = 1 then ((gamplaw05_lives.f kj5).bind fun t623 => (some t623)) else (some false)) else (some false)) else (some false))) = some r := by rw [if_pos rfl] at H; exact H
    clear H
    have H := H1
    clear H1
    by_cases c19 : t617 = true
    ·subst c19
     have H1 : (some false) = some r := by rw [if_pos rfl] at H; exact H
     clear H
     have H := H1
     clear H1
     rw [hrt] at H
     cases H
    ·replace c19 := Bool.eq_false_iff.mpr c19
     subst c19
     have H1 : (if t618 = 1 then (if (t619.length : Int) = 0 then (if t622 = 1 then ((gamplaw05_lives.f kj5).bind fun t623 => (some t623)) else (some false)) else (some false)) else (some false)) = some r := by rw [if_neg (show ¬ (false = true) by decide)] at H; exact H
     clear H
     have H := H1
     clear H1
     by_cases c20 : t618 = 1
     ·rw [if_pos c20] at H
      have c20b0 : (t618 == 1) = true := beq_iff_eq.mpr c20
      have c20b1 : (t618 != 1) = false := bne_eq_false_iff_eq.mpr c20
      clear c20
      by_cases c21 : (t619.length : Int) = 0
      ·rw [if_pos c21] at H
       have c21b0 : ((t619.length : Int) == 0) = true := beq_iff_eq.mpr c21
       have c21b1 : ((t619.length : Int) != 0) = false := bne_eq_false_iff_eq.mpr c21
       clear c21
       by_cases c22 : t622 = 1
       ·rw [if_pos c22] at H
        have c22b0 : (t622 == 1) = true := beq_iff_eq.mpr c22
        have c22b1 : (t622 != 1) = false := bne_eq_false_iff_eq.mpr c22
        clear c22
        replace H := Option.bind_eq_some_iff.mp H
        obtain ⟨t623, A230, H⟩ := H
        replace H : (some t623) = some r := H
        have A23 := Aside0.mk A230
        clear A230
        obtain rfl := Option.some.inj H
        obtain ⟨Ao24, co24, eo24⟩ := Kd.R_slice HO_8.out
        subst eo24
        go_wp2_with (first | (go_at_call 20; (with_reducible refine (gamplaw05_lives.calls kj5  t623 _ A23.out).mono ?_); rintro e w25 ⟨rfl, hb⟩; have n0_ := Aside0.mk (Kd.R_below (rl HO_8) hb); have n1_ := Aside0.mk (Kd.S_below (by (with_reducible repeat (first | apply Kd.S_alloc | apply Kd.S_drewN | apply Kd.S_drew)); exact HO_617001.out) hb); have n2_ := Aside0.mk (blk_below (g := gb611) (o := .cells #[.int .i64 a1_0, .slice A1_1 l1_1.length c1_1] 26 (0, 0)) (bk BK611) hb); have n3_ := Aside0.mk (blk_below (g := gb616) (o := .cells #[.int .i64 t612, .slice Ao13 t613.length co13] 26 (0, 0)) (bk BK616) hb); have n4_ := Aside0.mk (below_step (bl HB) hb); clear HO_8; clear HO_617001; clear BK611; clear BK616; clear HB; have HO_8 := n0_; have HO_617001 := n1_; have BK611 := n2_; have BK616 := n3_; have HB := n4_; clear n0_ n1_ n2_ n3_ n4_; (try clear hb); (try clear hb2); (try clear hk); (try clear hi)))
        go_ret
        exact ⟨by first | rfl | (simp [errW_none, errW_some] <;> rfl) | (simp [*, errW_none, errW_some] <;> rfl), by repeat (first | (with_reducible first | exact HB.out | apply below_alloc | apply pw_below_drewN | apply below_drew1 | refine below_set ?_ GE611.out | refine below_set ?_ GE616.out) | exact HB.out)⟩
       ·rw [if_neg c22] at H
        have c22b0 : (t622 == 1) = false := beq_eq_false_iff_ne.mpr c22
        have c22b1 : (t622 != 1) = true := bne_iff_ne.mpr c22
        rw [hrt] at H
        cases H
      ·rw [if_neg c21] at H
       have c21b0 : ((t619.length : Int) == 0) = false := beq_eq_false_iff_ne.mpr c21
       have c21b1 : ((t619.length : Int) != 0) = true := bne_iff_ne.mpr c21
       have c21b2 : ¬ (t619 = []) := fun h_ => c21 (by rw [h_]; rfl)
       rw [hrt] at H
       cases H
     ·rw [if_neg c20] at H
      have c20b0 : (t618 == 1) = false := beq_eq_false_iff_ne.mpr c20
      have c20b1 : (t618 != 1) = true := bne_iff_ne.mpr c20
      rw [hrt] at H
      cases H
   ·replace c18 := Bool.eq_false_iff.mpr c18
    subst c18
    have H1 : ((gampref05_Is.f kj5 a0 t612 t613).bind fun t624 => (if (t617 != t624) = true then (gamplaw05_StrapIs.j1 kj5 a0 t617 t619 t622 true t612 t613) else (if t618 = 0 then ((gamplaw05_lives.f kj5).bind fun t625 => (gamplaw05_StrapIs.j1 kj5 a0 t617 t619 t622 (!t625) t612 t613)) else (gamplaw05_StrapIs.j1 kj5 a0 t617 t619 t622 true t612 t613)))) = some r := by rw [if_neg (show ¬ (false = true) by decide)] at H; exact H
    clear H
    have H := H1
    clear H1
    have HC28 := Aside0.mk H
    clear H
    go_upto_region 6 with (fail)
    go_cut [62] (fun v62 wc => ∃ (kq : Nat) (x62_27 : Bool), v62 = .bool x62_27 ∧ Aside0 (gamplaw05_StrapIs.j1 kq a0 t617 t619 t622 x62_27 t612 t613 = some r) ∧ Aside0 (kq ≤ kj5) ∧ Aside0 (Kd.R (Kd.int .i64) 3 wc w.heap.size (fun _ => True) v620 t619) ∧ Aside0 (Kd.S (Kd.slice 3 (Kd.int .i64)) 22 wc w.heap.size (fun k_ => some k_ ≠ (v620 : Value).ownBlock) (.slice Ao13 t613.length co13) t613) ∧ Aside0 (wc.heap[gb611]? = some (.cells #[.int .i64 a1_0, (.slice A1_1 l1_1.length c1_1)] 26 (0, 0))) ∧ Aside0 (wc.heap[gb616]? = some (.cells #[.int .i64 t612, (.slice Ao13 t613.length co13)] 26 (0, 0))) ∧ Aside0 (Below w.heap.size w wc))
    case first =>
     have H := HC28.out
     clear HC28
     replace H := Option.bind_eq_some_iff.mp H
     obtain ⟨t624, A290, H⟩ := H
     replace H : (if (t617 != t624) = true then (gamplaw05_StrapIs.j1 kj5 a0 t617 t619 t622 true t612 t613) else (if t618 = 0 then ((gamplaw05_lives.f kj5).bind fun t625 => (gamplaw05_StrapIs.j1 kj5 a0 t617 t619 t622 (!t625) t612 t613)) else (gamplaw05_StrapIs.j1 kj5 a0 t617 t619 t622 true t612 t613))) = some r := H
     have A29 := Aside0.mk A290
     clear A290
     by_cases c30 : (t617 != t624) = true
     ·rw [if_pos c30] at H
      have c30b0 : (t617 != t624) = true := c30
      (try (have c30b1 : decide (t617 = t624) = false := by simpa using c30))
      (try (have c30b2 : (t617 == t624) = false := by simpa using c30))
      (try (have c30b3 : ¬ (t617 = t624) := by simpa using c30))
      clear c30
      (first | rw [c30b0] | (simp only [i64_w, i32_w]; rw [c30b0]) | skip)
      have H' := Aside0.mk H
      clear H
      have hnb31 := NB616_611.out
      have hnc31 := NB611_616.out
      have hcz32_0 : wc.cell? ⟨gb616, 0, none⟩ = some (.int .i64 t612) := (blk_cell BK616.out 0).trans rfl
      have hcz32_1 : wc.cell? ⟨gb616, 1, none⟩ = some (.slice Ao13 t613.length co13) := (blk_cell BK616.out 1).trans rfl
      have hfz32_0 := blk_frozen BK616.out 0
      have hfz32_1 := blk_frozen BK616.out 1
      go_wp2_with (first | ((with_reducible refine gate_callee (f := 30) rfl ?_); refine gL 53 Try.func30 #[.int .i64 a0, .agg #[.int .i64 t612, .slice Ao13 t613.length co13]] ?_; (with_reducible refine (gampref05_Is.calls kj5 a0 t612 _ _ t613 t624 _ ?side1 ?side2 A29.out).mono ?_); (case side1 => exact cl ((Kd.S_reads' HO_617001.out).2.2)); (case side2 => exact (Kd.S_reads' HO_617001.out).2.1); rintro e w33 ⟨rfl, hb⟩; refine ⟨_, rfl, ?_⟩; have n0_ := Aside0.mk (Kd.R_below (rl HO_8) hb); have n1_ := Aside0.mk (Kd.S_below (by (with_reducible repeat (first | apply Kd.S_alloc | apply Kd.S_drewN | apply Kd.S_drew)); exact HO_617001.out) hb); have n2_ := Aside0.mk (blk_below (g := gb611) (o := .cells #[.int .i64 a1_0, .slice A1_1 l1_1.length c1_1] 26 (0, 0)) (bk BK611) hb); have n3_ := Aside0.mk (blk_below (g := gb616) (o := .cells #[.int .i64 t612, .slice Ao13 t613.length co13] 26 (0, 0)) (bk BK616) hb); have n4_ := Aside0.mk (below_step (bl HB) hb); clear HO_8; clear HO_617001; clear BK611; clear BK616; clear HB; have HO_8 := n0_; have HO_617001 := n1_; have BK611 := n2_; have BK616 := n3_; have HB := n4_; clear n0_ n1_ n2_ n3_ n4_; (try clear hb); (try clear hb2); (try clear hk); (try clear hi)))
      go_meet
      case rel => exact ⟨_, (true), (by first | rfl | (simp; done) | (simp [*]; done)), H', ⟨by have := HJ5.out; first | omega | exact Nat.le_refl _⟩, ⟨rl HO_8⟩, ⟨by (with_reducible repeat (first | apply Kd.S_alloc | apply Kd.S_drewN | apply Kd.S_drew)); exact HO_617001.out⟩, ⟨bk BK611⟩, ⟨bk BK616⟩, ⟨bl HB⟩⟩
     ·rw [if_neg c30] at H
      have c30b0 : (t617 != t624) = false := by simpa using c30
      (try (have c30b1 : decide (t617 = t624) = true := by simpa using c30))
      (try (have c30b2 : (t617 == t624) = true := by simpa using c30))
      clear c30
      (first | rw [c30b0] | (simp only [i64_w, i32_w]; rw [c30b0]) | skip)
      by_cases c34 : t618 = 0
      ·rw [if_pos c34] at H
       have c34b0 : (t618 == 0) = true := beq_iff_eq.mpr c34
       have c34b1 : (t618 != 0) = false := bne_eq_false_iff_eq.mpr c34
       clear c34
       replace H := Option.bind_eq_some_iff.mp H
       obtain ⟨t625, A350, H⟩ := H
       replace H : (gamplaw05_StrapIs.j1 kj5 a0 t617 t619 t622 (!t625) t612 t613) = some r := H
       have A35 := Aside0.mk A350
       clear A350
       have H' := Aside0.mk H
       clear H
       have hnb36 := NB616_611.out
       have hnc36 := NB611_616.out
       have hcz37_0 : wc.cell? ⟨gb616, 0, none⟩ = some (.int .i64 t612) := (blk_cell BK616.out 0).trans rfl
       have hcz37_1 : wc.cell? ⟨gb616, 1, none⟩ = some (.slice Ao13 t613.length co13) := (blk_cell BK616.out 1).trans rfl
       have hfz37_0 := blk_frozen BK616.out 0
       have hfz37_1 := blk_frozen BK616.out 1
       go_wp2_with (first | ((with_reducible refine gate_callee (f := 30) rfl ?_); refine gL 53 Try.func30 #[.int .i64 a0, .agg #[.int .i64 t612, .slice Ao13 t613.length co13]] ?_; (with_reducible refine (gampref05_Is.calls kj5 a0 t612 _ _ t613 t624 _ ?side1 ?side2 A29.out).mono ?_); (case side1 => exact cl ((Kd.S_reads' HO_617001.out).2.2)); (case side2 => exact (Kd.S_reads' HO_617001.out).2.1); rintro e w38 ⟨rfl, hb⟩; refine ⟨_, rfl, ?_⟩; have n0_ := Aside0.mk (Kd.R_below (rl HO_8) hb); have n1_ := Aside0.mk (Kd.S_below (by (with_reducible repeat (first | apply Kd.S_alloc | apply Kd.S_drewN | apply Kd.S_drew)); exact HO_617001.out) hb); have n2_ := Aside0.mk (blk_below (g := gb611) (o := .cells #[.int .i64 a1_0, .slice A1_1 l1_1.length c1_1] 26 (0, 0)) (bk BK611) hb); have n3_ := Aside0.mk (blk_below (g := gb616) (o := .cells #[.int .i64 t612, .slice Ao13 t613.length co13] 26 (0, 0)) (bk BK616) hb); have n4_ := Aside0.mk (below_step (bl HB) hb); clear HO_8; clear HO_617001; clear BK611; clear BK616; clear HB; have HO_8 := n0_; have HO_617001 := n1_; have BK611 := n2_; have BK616 := n3_; have HB := n4_; clear n0_ n1_ n2_ n3_ n4_; (try clear hb); (try clear hb2); (try clear hk); (try clear hi)) | (go_at_call 20; (with_reducible refine (gamplaw05_lives.calls kj5  t625 _ A35.out).mono ?_); rintro e w39 ⟨rfl, hb⟩; have n0_ := Aside0.mk (Kd.R_below (rl HO_8) hb); have n1_ := Aside0.mk (Kd.S_below (by (with_reducible repeat (first | apply Kd.S_alloc | apply Kd.S_drewN | apply Kd.S_drew)); exact HO_617001.out) hb); have n2_ := Aside0.mk (blk_below (g := gb611) (o := .cells #[.int .i64 a1_0, .slice A1_1 l1_1.length c1_1] 26 (0, 0)) (bk BK611) hb); have n3_ := Aside0.mk (blk_below (g := gb616) (o := .cells #[.int .i64 t612, .slice Ao13 t613.length co13] 26 (0, 0)) (bk BK616) hb); have n4_ := Aside0.mk (below_step (bl HB) hb); clear HO_8; clear HO_617001; clear BK611; clear BK616; clear HB; have HO_8 := n0_; have HO_617001 := n1_; have BK611 := n2_; have BK616 := n3_; have HB := n4_; clear n0_ n1_ n2_ n3_ n4_; (try clear hb); (try clear hb2); (try clear hk); (try clear hi)))
       go_meet
       case rel => exact ⟨_, (!t625), (by first | rfl | (simp; done) | (simp [*]; done)), H', ⟨by have := HJ5.out; first | omega | exact Nat.le_refl _⟩, ⟨rl HO_8⟩, ⟨by (with_reducible repeat (first | apply Kd.S_alloc | apply Kd.S_drewN | apply Kd.S_drew)); exact HO_617001.out⟩, ⟨bk BK611⟩, ⟨bk BK616⟩, ⟨bl HB⟩⟩
      ·rw [if_neg c34] at H
       have c34b0 : (t618 == 0) = false := beq_eq_false_iff_ne.mpr c34
       have c34b1 : (t618 != 0) = true := bne_iff_ne.mpr c34
       have H' := Aside0.mk H
       clear H
       have hnb40 := NB616_611.out
       have hnc40 := NB611_616.out
       have hcz41_0 : wc.cell? ⟨gb616, 0, none⟩ = some (.int .i64 t612) := (blk_cell BK616.out 0).trans rfl
       have hcz41_1 : wc.cell? ⟨gb616, 1, none⟩ = some (.slice Ao13 t613.length co13) := (blk_cell BK616.out 1).trans rfl
       have hfz41_0 := blk_frozen BK616.out 0
       have hfz41_1 := blk_frozen BK616.out 1
       go_wp2_with (first | ((with_reducible refine gate_callee (f := 30) rfl ?_); refine gL 53 Try.func30 #[.int .i64 a0, .agg #[.int .i64 t612, .slice Ao13 t613.length co13]] ?_; (with_reducible refine (gampref05_Is.calls kj5 a0 t612 _ _ t613 t624 _ ?side1 ?side2 A29.out).mono ?_); (case side1 => exact cl ((Kd.S_reads' HO_617001.out).2.2)); (case side2 => exact (Kd.S_reads' HO_617001.out).2.1); rintro e w42 ⟨rfl, hb⟩; refine ⟨_, rfl, ?_⟩; have n0_ := Aside0.mk (Kd.R_below (rl HO_8) hb); have n1_ := Aside0.mk (Kd.S_below (by (with_reducible repeat (first | apply Kd.S_alloc | apply Kd.S_drewN | apply Kd.S_drew)); exact HO_617001.out) hb); have n2_ := Aside0.mk (blk_below (g := gb611) (o := .cells #[.int .i64 a1_0, .slice A1_1 l1_1.length c1_1] 26 (0, 0)) (bk BK611) hb); have n3_ := Aside0.mk (blk_below (g := gb616) (o := .cells #[.int .i64 t612, .slice Ao13 t613.length co13] 26 (0, 0)) (bk BK616) hb); have n4_ := Aside0.mk (below_step (bl HB) hb); clear HO_8; clear HO_617001; clear BK611; clear BK616; clear HB; have HO_8 := n0_; have HO_617001 := n1_; have BK611 := n2_; have BK616 := n3_; have HB := n4_; clear n0_ n1_ n2_ n3_ n4_; (try clear hb); (try clear hb2); (try clear hk); (try clear hi)))
       go_meet
       case rel => exact ⟨_, (true), (by first | rfl | (simp; done) | (simp [*]; done)), H', ⟨by have := HJ5.out; first | omega | exact Nat.le_refl _⟩, ⟨rl HO_8⟩, ⟨by (with_reducible repeat (first | apply Kd.S_alloc | apply Kd.S_drewN | apply Kd.S_drew)); exact HO_617001.out⟩, ⟨bk BK611⟩, ⟨bk BK616⟩, ⟨bl HB⟩⟩
    case rest =>
     clear HC28
     try clear c1
     try clear c2
     try clear p2
     try clear c3
     try clear c4
     try clear c5
     try clear c11
     try clear c14
     try clear c17
     try clear c17b0
     try clear c18
     try clear c19
     try clear c20
     try clear c20b0
     try clear c20b1
     try clear c21
     try clear c21b0
     try clear c21b1
     try clear c21b2
     try clear c22
     try clear c22b0
     try clear c22b1
     try clear c30
     try clear c30b0
     try clear c30b1
     try clear c30b2
     try clear c31
     try clear c34
     try clear c34b0
     try clear c34b1
     try clear c36
     try clear c40
     try clear hcz12_0
     try clear hcz12_1
     try clear hcz15_0
     try clear hcz15_1
     try clear hcz32_0
     try clear hcz32_1
     try clear hcz37_0
     try clear hcz37_1
     try clear hcz41_0
     try clear hcz41_1
     try clear hcz8_0
     try clear hcz8_1
     try clear hfz12_0
     try clear hfz12_1
     try clear hfz15_0
     try clear hfz15_1
     try clear hfz32_0
     try clear hfz32_1
     try clear hfz37_0
     try clear hfz37_1
     try clear hfz41_0
     try clear hfz41_1
     try clear hfz8_0
     try clear hfz8_1
     try clear p2
     obtain ⟨kq, x62_27, rfl, HA, HJ27, HO_8, HO_617001, BK611, BK616, HB⟩ := hcut
     cases kq with
     | zero => exact absurd HA.out (by simp [gamplaw05_StrapIs.j1])
     | succ kj27 =>
      have H := HA.out
      clear HA
      simp only [gamplaw05_StrapIs.j1] at H
      by_cases c43 : x62_27 = true
      ·subst c43
       have H1 : (some false) = some r := by rw [if_pos rfl] at H; exact H
       clear H
       have H := H1
       clear H1
       rw [hrt] at H
       cases H
      ·replace c43 := Bool.eq_false_iff.mpr c43
       subst c43
       have H1 : (if t617 = true then ((gampref05_Word.f kj27 a0 t612 t613).bind fun bt626 => (if bt626.2 = true then ((gampref05_Same.f kj27 t619 bt626.1).bind fun t630 => (if t630 = true then (some (t622 == 0)) else (some false))) else (if (t619.length : Int) = 0 then (some (t622 == 3)) else (some false)))) else (if (t619.length : Int) = 0 then (some (t622 == 2)) else (some false))) = some r := by rw [if_neg (show ¬ (false = true) by decide)] at H; exact H
       clear H
       have H := H1
       clear H1
       by_cases c44 : t617 = true
       ·subst c44
        have H1 : ((gampref05_Word.f kj27 a0 t612 t613).bind fun bt626 => (if bt626.2 = true then ((gampref05_Same.f kj27 t619 bt626.1).bind fun t630 => (if t630 = true then (some (t622 == 0)) else (some false))) else (if (t619.length : Int) = 0 then (some (t622 == 3)) else (some false)))) = some r := by rw [if_pos rfl] at H; exact H
        clear H
        have H := H1
        clear H1
        replace H := Option.bind_eq_some_iff.mp H
        obtain ⟨⟨t626, t629⟩, A450, H⟩ := H
        replace H : (if t629 = true then ((gampref05_Same.f kj27 t619 t626).bind fun t630 => (if t630 = true then (some (t622 == 0)) else (some false))) else (if (t619.length : Int) = 0 then (some (t622 == 3)) else (some false))) = some r := H
        have A45 := Aside0.mk A450
        clear A450
        by_cases c46 : t629 = true
        ·subst c46
         have H1 : ((gampref05_Same.f kj27 t619 t626).bind fun t630 => (if t630 = true then (some (t622 == 0)) else (some false))) = some r := by rw [if_pos rfl] at H; exact H
         clear H
         have H := H1
         clear H1
         replace H := Option.bind_eq_some_iff.mp H
         obtain ⟨t630, A470, H⟩ := H
         replace H : (if t630 = true then (some (t622 == 0)) else (some false)) = some r := H
         have A47 := Aside0.mk A470
         clear A470
         by_cases c48 : t630 = true
         ·subst c48
          have H1 : (some (t622 == 0)) = some r := by rw [if_pos rfl] at H; exact H
          clear H
          have H := H1
          clear H1
          obtain rfl := Option.some.inj H
          have hnb49 := NB616_611.out
          have hnc49 := NB611_616.out
          have hcz50_0 : wc.cell? ⟨gb616, 0, none⟩ = some (.int .i64 t612) := (blk_cell BK616.out 0).trans rfl
          have hcz50_1 : wc.cell? ⟨gb616, 1, none⟩ = some (.slice Ao13 t613.length co13) := (blk_cell BK616.out 1).trans rfl
          have hfz50_0 := blk_frozen BK616.out 0
          have hfz50_1 := blk_frozen BK616.out 1
          go_wp2_with (first | ((with_reducible refine gate_callee (f := 34) rfl ?_); refine gL 75 Try.func34 #[.int .i64 a0, .agg #[.int .i64 t612, .slice Ao13 t613.length co13]] ?_; (with_reducible refine (gampref05_Word.calls kj27 a0 t612 _ _ t613 t626 true _ ?side1 ?side2 A45.out).mono ?_); (case side1 => exact cl ((Kd.S_reads' HO_617001.out).2.2)); (case side2 => exact (Kd.S_reads' HO_617001.out).2.1); rintro e w51 ⟨v627, rfl, ho0, hb⟩; refine ⟨_, rfl, ?_⟩; have n0_ := Aside0.mk (Kd.R_elder' (rl HO_8) (Kd.R_base ho0) hb); have n1_ := Aside0.mk (Kd.S_elder' (by (with_reducible repeat (first | apply Kd.S_alloc | apply Kd.S_drewN | apply Kd.S_drew)); exact HO_617001.out) (Kd.R_base ho0) hb); have n2_ := Aside0.mk (Kd.R_lower (Kd.R_new' ho0 (Kd.R_lt (rl HO_8))) (below_size (bl HB))); have n3_ := Aside0.mk (blk_below (g := gb611) (o := .cells #[.int .i64 a1_0, .slice A1_1 l1_1.length c1_1] 26 (0, 0)) (bk BK611) hb); have n4_ := Aside0.mk (blk_below (g := gb616) (o := .cells #[.int .i64 t612, .slice Ao13 t613.length co13] 26 (0, 0)) (bk BK616) hb); have n5_ := Aside0.mk (below_step (bl HB) hb); clear HO_8; clear HO_617001; clear BK611; clear BK616; clear HB; have HO_8 := n0_; have HO_617001 := n1_; have HO628 := n2_; have BK611 := n3_; have BK616 := n4_; have HB := n5_; clear n0_ n1_ n2_ n3_ n4_ n5_; (try clear hb); (try clear hb2); (try clear hk); (try clear hi); (try clear ho0); obtain ⟨Ao52, co52, eo52⟩ := Kd.R_slice HO_8.out; subst eo52; obtain ⟨Ao53, co53, eo53⟩ := Kd.R_slice HO628.out; subst eo53) | ((with_reducible refine gate_callee (f := 47) rfl ?_); refine gL 89 Try.func47 #[.slice Ao52 t619.length co52, .slice Ao53 t626.length co53] ?_; (with_reducible refine (gampref05_Same.calls kj27 _ _ t619 _ _ t626 true _ ?side1 ?side2 ?side3 ?side4 A47.out).mono ?_); (case side1 => exact cl ((Kd.R_reads' HO_8.out).2.2)); (case side2 => exact (Kd.R_reads' HO_8.out).2.1); (case side3 => exact cl ((Kd.R_reads' HO628.out).2.2)); (case side4 => exact (Kd.R_reads' HO628.out).2.1); rintro e w' ⟨rfl, ⟨nd, rfl⟩⟩; refine ⟨_, rfl, ?_⟩))
          go_ret
          exact ⟨by first | rfl | (simp [errW_none, errW_some] <;> rfl) | (simp [*, errW_none, errW_some] <;> rfl), by repeat (first | (with_reducible first | exact HB.out | apply below_alloc | apply pw_below_drewN | apply below_drew1 | refine below_set ?_ GE611.out | refine below_set ?_ GE616.out) | exact HB.out)⟩
         ·replace c48 := Bool.eq_false_iff.mpr c48
          subst c48
          have H1 : (some false) = some r := by rw [if_neg (show ¬ (false = true) by decide)] at H; exact H
          clear H
          have H := H1
          clear H1
          rw [hrt] at H
          cases H
        ·replace c46 := Bool.eq_false_iff.mpr c46
         subst c46
         have H1 : (if (t619.length : Int) = 0 then (some (t622 == 3)) else (some false)) = some r := by rw [if_neg (show ¬ (false = true) by decide)] at H; exact H
         clear H
         have H := H1
         clear H1
         by_cases c59 : (t619.length : Int) = 0
         ·rw [if_pos c59] at H
          have c59b0 : ((t619.length : Int) == 0) = true := beq_iff_eq.mpr c59
          have c59b1 : ((t619.length : Int) != 0) = false := bne_eq_false_iff_eq.mpr c59
          clear c59
          obtain rfl := Option.some.inj H
          have hnb60 := NB616_611.out
          have hnc60 := NB611_616.out
          have hcz61_0 : wc.cell? ⟨gb616, 0, none⟩ = some (.int .i64 t612) := (blk_cell BK616.out 0).trans rfl
          have hcz61_1 : wc.cell? ⟨gb616, 1, none⟩ = some (.slice Ao13 t613.length co13) := (blk_cell BK616.out 1).trans rfl
          have hfz61_0 := blk_frozen BK616.out 0
          have hfz61_1 := blk_frozen BK616.out 1
          go_wp2_with (first | ((with_reducible refine gate_callee (f := 34) rfl ?_); refine gL 75 Try.func34 #[.int .i64 a0, .agg #[.int .i64 t612, .slice Ao13 t613.length co13]] ?_; (with_reducible refine (gampref05_Word.calls kj27 a0 t612 _ _ t613 t626 false _ ?side1 ?side2 A45.out).mono ?_); (case side1 => exact cl ((Kd.S_reads' HO_617001.out).2.2)); (case side2 => exact (Kd.S_reads' HO_617001.out).2.1); rintro e w62 ⟨v627, rfl, ho0, hb⟩; refine ⟨_, rfl, ?_⟩; have n0_ := Aside0.mk (Kd.R_elder' (rl HO_8) (Kd.R_base ho0) hb); have n1_ := Aside0.mk (Kd.S_elder' (by (with_reducible repeat (first | apply Kd.S_alloc | apply Kd.S_drewN | apply Kd.S_drew)); exact HO_617001.out) (Kd.R_base ho0) hb); have n2_ := Aside0.mk (Kd.R_lower (Kd.R_new' ho0 (Kd.R_lt (rl HO_8))) (below_size (bl HB))); have n3_ := Aside0.mk (blk_below (g := gb611) (o := .cells #[.int .i64 a1_0, .slice A1_1 l1_1.length c1_1] 26 (0, 0)) (bk BK611) hb); have n4_ := Aside0.mk (blk_below (g := gb616) (o := .cells #[.int .i64 t612, .slice Ao13 t613.length co13] 26 (0, 0)) (bk BK616) hb); have n5_ := Aside0.mk (below_step (bl HB) hb); clear HO_8; clear HO_617001; clear BK611; clear BK616; clear HB; have HO_8 := n0_; have HO_617001 := n1_; have HO628 := n2_; have BK611 := n3_; have BK616 := n4_; have HB := n5_; clear n0_ n1_ n2_ n3_ n4_ n5_; (try clear hb); (try clear hb2); (try clear hk); (try clear hi); (try clear ho0); obtain ⟨Ao63, co63, eo63⟩ := Kd.R_slice HO_8.out; subst eo63))
          go_ret
          exact ⟨by first | rfl | (simp [errW_none, errW_some] <;> rfl) | (simp [*, errW_none, errW_some] <;> rfl), by repeat (first | (with_reducible first | exact HB.out | apply below_alloc | apply pw_below_drewN | apply below_drew1 | refine below_set ?_ GE611.out | refine below_set ?_ GE616.out) | exact HB.out)⟩
         ·rw [if_neg c59] at H
          have c59b0 : ((t619.length : Int) == 0) = false := beq_eq_false_iff_ne.mpr c59
          have c59b1 : ((t619.length : Int) != 0) = true := bne_iff_ne.mpr c59
          have c59b2 : ¬ (t619 = []) := fun h_ => c59 (by rw [h_]; rfl)
          rw [hrt] at H
          cases H
       ·replace c44 := Bool.eq_false_iff.mpr c44
        subst c44
        have H1 : (if (t619.length : Int) = 0 then (some (t622 == 2)) else (some false)) = some r := by rw [if_neg (show ¬ (false = true) by decide)] at H; exact H
        clear H
        have H := H1
        clear H1
        by_cases c68 : (t619.length : Int) = 0
        ·rw [if_pos c68] at H
         have c68b0 : ((t619.length : Int) == 0) = true := beq_iff_eq.mpr c68
         have c68b1 : ((t619.length : Int) != 0) = false := bne_eq_false_iff_eq.mpr c68
         clear c68
         obtain rfl := Option.some.inj H
         obtain ⟨Ao69, co69, eo69⟩ := Kd.R_slice HO_8.out
         subst eo69
         go_wp2
         go_ret
         exact ⟨by first | rfl | (simp [errW_none, errW_some] <;> rfl) | (simp [*, errW_none, errW_some] <;> rfl), by repeat (first | (with_reducible first | exact HB.out | apply below_alloc | apply pw_below_drewN | apply below_drew1 | refine below_set ?_ GE611.out | refine below_set ?_ GE616.out) | exact HB.out)⟩
        ·rw [if_neg c68] at H
         have c68b0 : ((t619.length : Int) == 0) = false := beq_eq_false_iff_ne.mpr c68
         have c68b1 : ((t619.length : Int) != 0) = true := bne_iff_ne.mpr c68
         have c68b2 : ¬ (t619 = []) := fun h_ => c68 (by rw [h_]; rfl)
         rw [hrt] at H
         cases H
end Go.Proofs.Ytdldfdcedjmneaa.Lx

/- The declarations of Lxx2 that the claim Qe needs. -/
import Derived.Test.YtdldfdcedjmneaaQeTkP
import Derived.Test.YtdldfdcedjmneaaQeLxx0
import Derived.Test.YtdldfdcedjmneaaQeLxx1
import Derived.Test.YtdldfdcedjmneaaQeM0
namespace Go.Proofs.Ytdldfdcedjmneaa.Lx
open Go.RowKit Go.Proofs.Ytdldfdcedjmneaa.Own Go.Proofs.YtdldfdcedjmneaaW.PrintWords Go.Proofs.YtdldfdcedjmneaaW.PrintLast Go.Proofs.YtdldfdcedjmneaaW.PrintMore
attribute [local go_sem] max2_int min2_int max_two min_two max_three min_three max_four min_four
set_option linter.unusedVariables false
set_option linter.unusedSimpArgs false
mutual
def gampref05_SameBraid.j0 : Nat → Bool → Int → List (List Int) → Int → List (List Int) → Option (Bool)
  | 0, _, _, _, _, _ => none
  | k + 1, x19, x123000, x123001, x124000, x124001 => if x19 = true then (some false) else (gampref05_SameBraid.l0 k 0 x123000 x123001 x124000 x124001)
def gampref05_SameBraid.l0 : Nat → Int → Int → List (List Int) → Int → List (List Int) → Option (Bool)
  | 0, _, _, _, _, _ => none
  | k + 1, x5, x123000, x123001, x124000, x124001 => if x5 < (x123001.length : Int) then (if 0 ≤ x5 then (if x5 < (x124001.length : Int) then ((gampref05_Same.f k (rd_L1 x123001 x5) (rd_L1 x124001 x5)).bind fun t126 => (if t126 = true then (gampref05_SameBraid.l0 k (wrap64 (x5 + 1)) x123000 x123001 x124000 x124001) else (some false))) else (none)) else (none)) else (some true)
end
def gampref05_SameBraid.f (k : Nat) (a0_0 : Int) (l0_1 : List (List Int)) (a1_0 : Int) (l1_1 : List (List Int)) : Option (Bool) := if a0_0 = a1_0 then (gampref05_SameBraid.j0 k ((l0_1.length : Int) != (l1_1.length : Int)) a0_0 l0_1 a1_0 l1_1) else (gampref05_SameBraid.j0 k true a0_0 l0_1 a1_0 l1_1)
theorem gampref05_SameBraid.mono_l : ∀ k, (∀ y0 y1 y2 y3 y4, LeO (gampref05_SameBraid.j0 k y0 y1 y2 y3 y4) (gampref05_SameBraid.j0 (k + 1) y0 y1 y2 y3 y4)) ∧ (∀ y0 y1 y2 y3 y4, LeO (gampref05_SameBraid.l0 k y0 y1 y2 y3 y4) (gampref05_SameBraid.l0 (k + 1) y0 y1 y2 y3 y4))
 | 0 => ⟨fun _ _ _ _ _ r h => by simp [gampref05_SameBraid.j0] at h, fun _ _ _ _ _ r h => by simp [gampref05_SameBraid.l0] at h⟩
 | k + 1 => by
  obtain ⟨ih0, ih1⟩ := gampref05_SameBraid.mono_l k
  refine ⟨?_, ?_⟩
  ·intro y0 y1 y2 y3 y4
   unfold gampref05_SameBraid.j0
   repeat' first
   | (with_reducible exact ih0 _ _ _ _ _)
   | (with_reducible exact ih1 _ _ _ _ _)
   | (with_reducible exact gampref05_Same.mono _ _ _)
   | (with_reducible exact LeO.refl _)
   | (with_reducible exact LeO.none _)
   | (with_reducible refine LeO.ite ?_ ?_)
   | (with_reducible refine LeO.bind ?_ (fun _ => ?_))
   | exact ih0 _ _ _ _ _
   | exact ih1 _ _ _ _ _
   | exact gampref05_Same.mono _ _ _
   | exact LeO.none _
   | refine LeO.ite ?_ ?_
   | refine LeO.bind ?_ (fun _ => ?_)
  ·intro y0 y1 y2 y3 y4
   unfold gampref05_SameBraid.l0
   repeat' first
   | (with_reducible exact ih0 _ _ _ _ _)
   | (with_reducible exact ih1 _ _ _ _ _)
   | (with_reducible exact gampref05_Same.mono _ _ _)
   | (with_reducible exact LeO.refl _)
   | (with_reducible exact LeO.none _)
   | (with_reducible refine LeO.ite ?_ ?_)
   | (with_reducible refine LeO.bind ?_ (fun _ => ?_))
   | exact ih0 _ _ _ _ _
   | exact ih1 _ _ _ _ _
   | exact gampref05_Same.mono _ _ _
   | exact LeO.none _
   | refine LeO.ite ?_ ?_
   | refine LeO.bind ?_ (fun _ => ?_)
theorem gampref05_SameBraid.mono : ∀ a0 a1 a2 a3 k, LeO (gampref05_SameBraid.f k a0 a1 a2 a3) (gampref05_SameBraid.f (k + 1) a0 a1 a2 a3) := by
  intro a0 a1 a2 a3 k
  obtain ⟨ih0, ih1⟩ := gampref05_SameBraid.mono_l k
  unfold gampref05_SameBraid.f
  repeat' first
      | (with_reducible exact ih0 _ _ _ _ _)
      | (with_reducible exact ih1 _ _ _ _ _)
      | (with_reducible exact gampref05_Same.mono _ _ _)
      | (with_reducible exact LeO.refl _)
      | (with_reducible exact LeO.none _)
      | (with_reducible refine LeO.ite ?_ ?_)
      | (with_reducible refine LeO.bind ?_ (fun _ => ?_))
      | exact ih0 _ _ _ _ _
      | exact ih1 _ _ _ _ _
      | exact gampref05_Same.mono _ _ _
      | exact LeO.none _
      | refine LeO.ite ?_ ?_
      | refine LeO.bind ?_ (fun _ => ?_)
set_option maxHeartbeats 8000000 in
set_option maxRecDepth 100000 in
theorem gampref05_SameBraid.calls (k : Nat) (a0_0 : Int) (A0_1 : Option Addr) (c0_1 : Nat) (l0_1 : List (List Int)) (a1_0 : Int) (A1_1 : Option Addr) (c1_1 : Nat) (l1_1 : List (List Int)) (r : Bool) (w : World) (hr0_1 : Kd.C (Kd.slice 3 (Kd.int .i64)) w A0_1 l0_1.length l0_1) (hc0_1 : l0_1.length ≤ c0_1) (hr1_1 : Kd.C (Kd.slice 3 (Kd.int .i64)) w A1_1 l1_1.length l1_1) (hc1_1 : l1_1.length ≤ c1_1) (h : gampref05_SameBraid.f k a0_0 l0_1 a1_0 l1_1 = some r) :
  Calls Try.prog 21 #[.agg #[.int .i64 a0_0, .slice A0_1 l0_1.length c0_1], .agg #[.int .i64 a1_0, .slice A1_1 l1_1.length c1_1]] w fun e w' => e = .returned (.bool r) ∧ Below w.heap.size w w' := by
 have hu26 := Try.underlying26
 have HR0_1 := Aside0.mk hr0_1
 have HC0_1 := Aside0.mk hc0_1
 clear hr0_1 hc0_1
 have HR1_1 := Aside0.mk hr1_1
 have HC1_1 := Aside0.mk hc1_1
 clear hr1_1 hc1_1
 have HB := Aside0.mk (Below.refl w.heap.size w)
 have H : (if a0_0 = a1_0 then (gampref05_SameBraid.j0 k ((l0_1.length : Int) != (l1_1.length : Int)) a0_0 l0_1 a1_0 l1_1) else (gampref05_SameBraid.j0 k true a0_0 l0_1 a1_0 l1_1)) = some r := h
 clear h
 have HC3 := Aside0.mk H
 clear H
 go_enter Try.func21, Try.ntmps21
 go_upto_region 1 with (first | ((with_reducible refine gate_dst (N := 2) rfl ?_); (try (refine gate_guard (by rfl) ?_; dsimp only)); refine box_event ?hg (N := 2) ?hd (cs := #[.int .i64 a0_0, .slice A0_1 l0_1.length c0_1]) (t := 26) ?hr ?_; (case hd => rfl); (case hg => rfl); (case hr => first | (go_simp; done) | (go_simp; rfl)); intro gb122 hg w4 hbox hb; have n0_ := Aside0.mk (below_step (bl HB) hb); have n1_ := Aside0.mk (hbox); have n2_ := Aside0.mk ((by rw [hg]; exact (below_size (bl HB)) : w.heap.size ≤ gb122)); have n3_ := Aside0.mk ((by rw [hg]; exact (below_size (bl HB)) : w.heap.size ≤ gb122)); clear HB; have HB := n0_; have BK122 := n1_; have GW122 := n2_; have GE122 := n3_; clear n0_ n1_ n2_ n3_; clear hb hbox hg) | ((with_reducible refine gate_dst (N := 3) rfl ?_); (try (refine gate_guard (by rfl) ?_; dsimp only)); refine box_event ?hg (N := 3) ?hd (cs := #[.int .i64 a1_0, .slice A1_1 l1_1.length c1_1]) (t := 26) ?hr ?_; (case hd => rfl); (case hg => rfl); (case hr => first | (go_simp; done) | (go_simp; rfl)); intro gb123 hg w5 hbox hb; have n0_ := Aside0.mk (blk_below (g := gb122) (o := .cells #[.int .i64 a0_0, .slice A0_1 l0_1.length c0_1] 26 (0, 0)) (bk BK122) hb); have n1_ := Aside0.mk (below_step (bl HB) hb); have n2_ := Aside0.mk (hbox); have n3_ := Aside0.mk ((by rw [hg]; exact (below_size (bl HB)) : w.heap.size ≤ gb123)); have n4_ := Aside0.mk ((by rw [hg]; exact (below_size (bl HB)) : w.heap.size ≤ gb123)); have n5_ := Aside0.mk ((by rw [hg]; exact Nat.ne_of_lt (blk_lt (g := gb122) (o := .cells #[.int .i64 a0_0, .slice A0_1 l0_1.length c0_1] 26 (0, 0)) (bk BK122)) : gb122 ≠ gb123)); have n6_ := Aside0.mk ((by rw [hg]; exact Nat.ne_of_gt (blk_lt (g := gb122) (o := .cells #[.int .i64 a0_0, .slice A0_1 l0_1.length c0_1] 26 (0, 0)) (bk BK122)) : gb123 ≠ gb122)); clear BK122; clear HB; have BK122 := n0_; have HB := n1_; have BK123 := n2_; have GW123 := n3_; have GE123 := n4_; have NB122_123 := n5_; have NB123_122 := n6_; clear n0_ n1_ n2_ n3_ n4_ n5_ n6_; clear hb hbox hg))
 repeat (go_quiet (first | ((with_reducible refine gate_dst (N := 2) rfl ?_); (try (refine gate_guard (by rfl) ?_; dsimp only)); refine box_event ?hg (N := 2) ?hd (cs := #[.int .i64 a0_0, .slice A0_1 l0_1.length c0_1]) (t := 26) ?hr ?_; (case hd => rfl); (case hg => rfl); (case hr => first | (go_simp; done) | (go_simp; rfl)); intro gb122 hg w4 hbox hb; have n0_ := Aside0.mk (below_step (bl HB) hb); have n1_ := Aside0.mk (hbox); have n2_ := Aside0.mk ((by rw [hg]; exact (below_size (bl HB)) : w.heap.size ≤ gb122)); have n3_ := Aside0.mk ((by rw [hg]; exact (below_size (bl HB)) : w.heap.size ≤ gb122)); clear HB; have HB := n0_; have BK122 := n1_; have GW122 := n2_; have GE122 := n3_; clear n0_ n1_ n2_ n3_; clear hb hbox hg) | ((with_reducible refine gate_dst (N := 3) rfl ?_); (try (refine gate_guard (by rfl) ?_; dsimp only)); refine box_event ?hg (N := 3) ?hd (cs := #[.int .i64 a1_0, .slice A1_1 l1_1.length c1_1]) (t := 26) ?hr ?_; (case hd => rfl); (case hg => rfl); (case hr => first | (go_simp; done) | (go_simp; rfl)); intro gb123 hg w5 hbox hb; have n0_ := Aside0.mk (blk_below (g := gb122) (o := .cells #[.int .i64 a0_0, .slice A0_1 l0_1.length c0_1] 26 (0, 0)) (bk BK122) hb); have n1_ := Aside0.mk (below_step (bl HB) hb); have n2_ := Aside0.mk (hbox); have n3_ := Aside0.mk ((by rw [hg]; exact (below_size (bl HB)) : w.heap.size ≤ gb123)); have n4_ := Aside0.mk ((by rw [hg]; exact (below_size (bl HB)) : w.heap.size ≤ gb123)); have n5_ := Aside0.mk ((by rw [hg]; exact Nat.ne_of_lt (blk_lt (g := gb122) (o := .cells #[.int .i64 a0_0, .slice A0_1 l0_1.length c0_1] 26 (0, 0)) (bk BK122)) : gb122 ≠ gb123)); have n6_ := Aside0.mk ((by rw [hg]; exact Nat.ne_of_gt (blk_lt (g := gb122) (o := .cells #[.int .i64 a0_0, .slice A0_1 l0_1.length c0_1] 26 (0, 0)) (bk BK122)) : gb123 ≠ gb122)); clear BK122; clear HB; have BK122 := n0_; have HB := n1_; have BK123 := n2_; have GW123 := n3_; have GE123 := n4_; have NB122_123 := n5_; have NB123_122 := n6_; clear n0_ n1_ n2_ n3_ n4_ n5_ n6_; clear hb hbox hg)); go_upto_region 1 with (first | ((with_reducible refine gate_dst (N := 2) rfl ?_); (try (refine gate_guard (by rfl) ?_; dsimp only)); refine box_event ?hg (N := 2) ?hd (cs := #[.int .i64 a0_0, .slice A0_1 l0_1.length c0_1]) (t := 26) ?hr ?_; (case hd => rfl); (case hg => rfl); (case hr => first | (go_simp; done) | (go_simp; rfl)); intro gb122 hg w4 hbox hb; have n0_ := Aside0.mk (below_step (bl HB) hb); have n1_ := Aside0.mk (hbox); have n2_ := Aside0.mk ((by rw [hg]; exact (below_size (bl HB)) : w.heap.size ≤ gb122)); have n3_ := Aside0.mk ((by rw [hg]; exact (below_size (bl HB)) : w.heap.size ≤ gb122)); clear HB; have HB := n0_; have BK122 := n1_; have GW122 := n2_; have GE122 := n3_; clear n0_ n1_ n2_ n3_; clear hb hbox hg) | ((with_reducible refine gate_dst (N := 3) rfl ?_); (try (refine gate_guard (by rfl) ?_; dsimp only)); refine box_event ?hg (N := 3) ?hd (cs := #[.int .i64 a1_0, .slice A1_1 l1_1.length c1_1]) (t := 26) ?hr ?_; (case hd => rfl); (case hg => rfl); (case hr => first | (go_simp; done) | (go_simp; rfl)); intro gb123 hg w5 hbox hb; have n0_ := Aside0.mk (blk_below (g := gb122) (o := .cells #[.int .i64 a0_0, .slice A0_1 l0_1.length c0_1] 26 (0, 0)) (bk BK122) hb); have n1_ := Aside0.mk (below_step (bl HB) hb); have n2_ := Aside0.mk (hbox); have n3_ := Aside0.mk ((by rw [hg]; exact (below_size (bl HB)) : w.heap.size ≤ gb123)); have n4_ := Aside0.mk ((by rw [hg]; exact (below_size (bl HB)) : w.heap.size ≤ gb123)); have n5_ := Aside0.mk ((by rw [hg]; exact Nat.ne_of_lt (blk_lt (g := gb122) (o := .cells #[.int .i64 a0_0, .slice A0_1 l0_1.length c0_1] 26 (0, 0)) (bk BK122)) : gb122 ≠ gb123)); have n6_ := Aside0.mk ((by rw [hg]; exact Nat.ne_of_gt (blk_lt (g := gb122) (o := .cells #[.int .i64 a0_0, .slice A0_1 l0_1.length c0_1] 26 (0, 0)) (bk BK122)) : gb123 ≠ gb122)); clear BK122; clear HB; have BK122 := n0_; have HB := n1_; have BK123 := n2_; have GW123 := n3_; have GE123 := n4_; have NB122_123 := n5_; have NB123_122 := n6_; clear n0_ n1_ n2_ n3_ n4_ n5_ n6_; clear hb hbox hg)))
 (try simp only [Act.put, List.setIfInBounds_toArray, List.set_cons_zero, List.set_cons_succ])
 go_cut [19] (fun v19 wc => ∃ (kq : Nat) (x19_2 : Bool), v19 = .bool x19_2 ∧ Aside0 (gampref05_SameBraid.j0 kq x19_2 a0_0 l0_1 a1_0 l1_1 = some r) ∧ Aside0 (kq ≤ k) ∧ Aside0 (wc.heap[gb122]? = some (.cells #[.int .i64 a0_0, (.slice A0_1 l0_1.length c0_1)] 26 (0, 0))) ∧ Aside0 (wc.heap[gb123]? = some (.cells #[.int .i64 a1_0, (.slice A1_1 l1_1.length c1_1)] 26 (0, 0))) ∧ Aside0 (Below w.heap.size w wc))
 case first =>
  have H := HC3.out
  clear HC3
  by_cases c6 : a0_0 = a1_0
  ·rw [if_pos c6] at H
   have c6b0 : (a0_0 == a1_0) = true := beq_iff_eq.mpr c6
   have c6b1 : (a0_0 != a1_0) = false := bne_eq_false_iff_eq.mpr c6
   clear c6
   (first | rw [c6b0] | (simp only [i64_w, i32_w]; rw [c6b0]) | skip)
   have H' := Aside0.mk H
   clear H
   have hnb7 := NB122_123.out
   have hnc7 := NB123_122.out
   have hcz8_0 : w5.cell? ⟨gb122, 0, none⟩ = some (.int .i64 a0_0) := (blk_cell BK122.out 0).trans rfl
   have hcz8_1 : w5.cell? ⟨gb122, 1, none⟩ = some (.slice A0_1 l0_1.length c0_1) := (blk_cell BK122.out 1).trans rfl
   have hfz8_0 := blk_frozen BK122.out 0
   have hfz8_1 := blk_frozen BK122.out 1
   have hcz9_0 : w5.cell? ⟨gb123, 0, none⟩ = some (.int .i64 a1_0) := (blk_cell BK123.out 0).trans rfl
   have hcz9_1 : w5.cell? ⟨gb123, 1, none⟩ = some (.slice A1_1 l1_1.length c1_1) := (blk_cell BK123.out 1).trans rfl
   have hfz9_0 := blk_frozen BK123.out 0
   have hfz9_1 := blk_frozen BK123.out 1
   go_wp2
   repeat (go_quiet (fail); try go_wp2)
   go_meet
   case rel => exact ⟨_, (((l0_1.length : Int) != (l1_1.length : Int))), (by first | rfl | (simp; done) | (simp [*]; done)), H', ⟨by first | omega | exact Nat.le_refl _⟩, ⟨bk BK122⟩, ⟨bk BK123⟩, ⟨bl HB⟩⟩
  ·rw [if_neg c6] at H
   have c6b0 : (a0_0 == a1_0) = false := beq_eq_false_iff_ne.mpr c6
   have c6b1 : (a0_0 != a1_0) = true := bne_iff_ne.mpr c6
   (first | rw [c6b0] | (simp only [i64_w, i32_w]; rw [c6b0]) | skip)
   have H' := Aside0.mk H
   clear H
   have hnb10 := NB122_123.out
   have hnc10 := NB123_122.out
   have hcz11_0 : w5.cell? ⟨gb122, 0, none⟩ = some (.int .i64 a0_0) := (blk_cell BK122.out 0).trans rfl
   have hcz11_1 : w5.cell? ⟨gb122, 1, none⟩ = some (.slice A0_1 l0_1.length c0_1) := (blk_cell BK122.out 1).trans rfl
   have hfz11_0 := blk_frozen BK122.out 0
   have hfz11_1 := blk_frozen BK122.out 1
   have hcz12_0 : w5.cell? ⟨gb123, 0, none⟩ = some (.int .i64 a1_0) := (blk_cell BK123.out 0).trans rfl
   have hcz12_1 : w5.cell? ⟨gb123, 1, none⟩ = some (.slice A1_1 l1_1.length c1_1) := (blk_cell BK123.out 1).trans rfl
   have hfz12_0 := blk_frozen BK123.out 0
   have hfz12_1 := blk_frozen BK123.out 1
   go_wp2
   repeat (go_quiet (fail); try go_wp2)
   go_meet
   case rel => exact ⟨_, (true), (by first | rfl | (simp; done) | (simp [*]; done)), H', ⟨by first | omega | exact Nat.le_refl _⟩, ⟨bk BK122⟩, ⟨bk BK123⟩, ⟨bl HB⟩⟩
 case rest =>
  clear HC3
  try clear c1
  try clear c2
  try clear p2
  try clear c6
  try clear c6b0
  try clear c6b1
  try clear c7
  try clear c10
  try clear hcz11_0
  try clear hcz11_1
  try clear hcz12_0
  try clear hcz12_1
  try clear hcz8_0
  try clear hcz8_1
  try clear hcz9_0
  try clear hcz9_1
  try clear hfz11_0
  try clear hfz11_1
  try clear hfz12_0
  try clear hfz12_1
  try clear hfz8_0
  try clear hfz8_1
  try clear hfz9_0
  try clear hfz9_1
  obtain ⟨kq, x19_2, rfl, HA, HJ2, BK122, BK123, HB⟩ := hcut
  cases kq with
  | zero => exact absurd HA.out (by simp [gampref05_SameBraid.j0])
  | succ kj2 =>
   have H := HA.out
   clear HA
   simp only [gampref05_SameBraid.j0] at H
   by_cases c13 : x19_2 = true
   ·subst c13
    have H1 : (some false) = some r := by rw [if_pos rfl] at H; exact H
    clear H
    have H := H1
    clear H1
    obtain rfl := Option.some.inj H
    go_wp2
    repeat (go_quiet (fail); try go_wp2)
    go_ret
    exact ⟨by first | rfl | (simp [errW_none, errW_some] <;> rfl) | (simp [*, errW_none, errW_some] <;> rfl), by repeat (first | (with_reducible first | exact HB.out | apply below_alloc | apply pw_below_drewN | apply below_drew1 | refine below_set ?_ GE122.out | refine below_set ?_ GE123.out) | exact HB.out)⟩
   ·replace c13 := Bool.eq_false_iff.mpr c13
    subst c13
    have H1 : (gampref05_SameBraid.l0 kj2 0 a0_0 l0_1 a1_0 l1_1) = some r := by rw [if_neg (show ¬ (false = true) by decide)] at H; exact H
    clear H
    have H := H1
    clear H1
    have H' := Aside0.mk H
    clear H
    go_wp2
    repeat (go_quiet (fail); try go_wp2)
    go_loopg [5] kj2 (fun kq v5 w' => ∃ (x5_2 : Int), v5 = .int .i64 x5_2 ∧ Aside0 (gampref05_SameBraid.l0 kq x5_2 a0_0 l0_1 a1_0 l1_1 = some r) ∧ Aside0 (kq ≤ kj2) ∧ Aside0 (w'.heap[gb122]? = some (.cells #[.int .i64 a0_0, (.slice A0_1 l0_1.length c0_1)] 26 (0, 0))) ∧ Aside0 (w'.heap[gb123]? = some (.cells #[.int .i64 a1_0, (.slice A1_1 l1_1.length c1_1)] 26 (0, 0))) ∧ Aside0 (Below w.heap.size w w'))
    case atStart => exact ⟨(0), (by first | rfl | (simp; done) | (simp [*]; done)), H', ⟨Nat.le_refl _⟩, ⟨bk BK122⟩, ⟨bk BK123⟩, ⟨bl HB⟩⟩
    case round =>
     clear H'
     try clear c1
     try clear c2
     try clear p2
     try clear c6
     try clear c6b0
     try clear c6b1
     try clear c7
     try clear c10
     try clear c13
     try clear hcz11_0
     try clear hcz11_1
     try clear hcz12_0
     try clear hcz12_1
     try clear hcz8_0
     try clear hcz8_1
     try clear hcz9_0
     try clear hcz9_1
     try clear hfz11_0
     try clear hfz11_1
     try clear hfz12_0
     try clear hfz12_1
     try clear hfz8_0
     try clear hfz8_1
     try clear hfz9_0
     try clear hfz9_1
     try clear p2
     obtain ⟨x5_2, rfl, HA, HK2, BK122, BK123, HB⟩ := hrel
     cases gk with
     | zero => exact absurd HA.out (by simp [gampref05_SameBraid.l0])
     | succ k2 =>
      have H := HA.out
      clear HA
      simp only [gampref05_SameBraid.l0] at H
      by_cases c14 : x5_2 < (l0_1.length : Int)
      ·rw [if_pos c14] at H
       have c14b0 : decide (x5_2 < (l0_1.length : Int)) = true := decide_eq_true c14
       clear c14
       by_cases c15 : 0 ≤ x5_2
       ·rw [if_pos c15] at H
        have c15b0 : decide (0 ≤ x5_2) = true := decide_eq_true c15
        clear c15
        by_cases c16 : x5_2 < (l1_1.length : Int)
        ·rw [if_pos c16] at H
         have c16b0 : decide (x5_2 < (l1_1.length : Int)) = true := decide_eq_true c16
         clear c16
         replace H := Option.bind_eq_some_iff.mp H
         obtain ⟨t126, A170, H⟩ := H
         replace H : (if t126 = true then (gampref05_SameBraid.l0 k2 (wrap64 (x5_2 + 1)) a0_0 l0_1 a1_0 l1_1) else (some false)) = some r := H
         have A17 := Aside0.mk A170
         clear A170
         by_cases c18 : t126 = true
         ·subst c18
          have H1 : (gampref05_SameBraid.l0 k2 (wrap64 (x5_2 + 1)) a0_0 l0_1 a1_0 l1_1) = some r := by rw [if_pos rfl] at H; exact H
          clear H
          have H := H1
          clear H1
          have H' := Aside0.mk H
          clear H
          have hnb19 := NB122_123.out
          have hnc19 := NB123_122.out
          have hcz20_0 : wr.cell? ⟨gb122, 0, none⟩ = some (.int .i64 a0_0) := (blk_cell BK122.out 0).trans rfl
          have hcz20_1 : wr.cell? ⟨gb122, 1, none⟩ = some (.slice A0_1 l0_1.length c0_1) := (blk_cell BK122.out 1).trans rfl
          have hfz20_0 := blk_frozen BK122.out 0
          have hfz20_1 := blk_frozen BK122.out 1
          have p124 : 0 ≤ (x5_2 : Int) := ofd
          have q124 : x5_2 < (l0_1.length : Int) := ofd
          obtain ⟨ad124, A124_0, c124_0, e124, hx124_0, hl124_0, hi124_0⟩ := at_L1 HR0_1.out x5_2 p124 q124
          cases e124
          replace hx124_0 := (HB.out.cell (World.block_lt_of_cell? w _ hx124_0)).trans hx124_0
          have HR124_0 := Aside0.mk hi124_0
          have HC124_0 := Aside0.mk hl124_0
          clear hi124_0 hl124_0
          replace p124 := eq_true p124
          replace q124 := eq_true q124
          have hcz21_0 : wr.cell? ⟨gb123, 0, none⟩ = some (.int .i64 a1_0) := (blk_cell BK123.out 0).trans rfl
          have hcz21_1 : wr.cell? ⟨gb123, 1, none⟩ = some (.slice A1_1 l1_1.length c1_1) := (blk_cell BK123.out 1).trans rfl
          have hfz21_0 := blk_frozen BK123.out 0
          have hfz21_1 := blk_frozen BK123.out 1
          have p125 : 0 ≤ (x5_2 : Int) := ofd
          have q125 : x5_2 < (l1_1.length : Int) := ofd
          obtain ⟨ad125, A125_0, c125_0, e125, hx125_0, hl125_0, hi125_0⟩ := at_L1 HR1_1.out x5_2 p125 q125
          cases e125
          replace hx125_0 := (HB.out.cell (World.block_lt_of_cell? w _ hx125_0)).trans hx125_0
          have HR125_0 := Aside0.mk hi125_0
          have HC125_0 := Aside0.mk hl125_0
          clear hi125_0 hl125_0
          replace p125 := eq_true p125
          replace q125 := eq_true q125
          go_wp2_with (first | (go_at_call 47; (with_reducible refine (gampref05_Same.calls k2 _ _ (rd_L1 l0_1 x5_2) _ _ (rd_L1 l1_1 x5_2) true _ ?side1 ?side2 ?side3 ?side4 A17.out).mono ?_); (case side1 => exact cl (Kd.C_below HR124_0.out HB.out)); (case side2 => exact HC124_0.out); (case side3 => exact cl (Kd.C_below HR125_0.out HB.out)); (case side4 => exact HC125_0.out); rintro e w' ⟨rfl, ⟨nd, rfl⟩⟩; (try first | exact ⟨rfl, _, World.drewN_drewN _ _ _⟩ | exact ⟨rfl, _, Eq.trans (World.drewN_drewN _ _ _) (congrArg (World.drewN _) (Nat.add_assoc _ _ _))⟩)))
          repeat (go_quiet (first | (go_at_call 47; (with_reducible refine (gampref05_Same.calls k2 _ _ (rd_L1 l0_1 x5_2) _ _ (rd_L1 l1_1 x5_2) true _ ?side1 ?side2 ?side3 ?side4 A17.out).mono ?_); (case side1 => exact cl (Kd.C_below HR124_0.out HB.out)); (case side2 => exact HC124_0.out); (case side3 => exact cl (Kd.C_below HR125_0.out HB.out)); (case side4 => exact HC125_0.out); rintro e w' ⟨rfl, ⟨nd, rfl⟩⟩; (try first | exact ⟨rfl, _, World.drewN_drewN _ _ _⟩ | exact ⟨rfl, _, Eq.trans (World.drewN_drewN _ _ _) (congrArg (World.drewN _) (Nat.add_assoc _ _ _))⟩))); try go_wp2_with (first | (go_at_call 47; (with_reducible refine (gampref05_Same.calls k2 _ _ (rd_L1 l0_1 x5_2) _ _ (rd_L1 l1_1 x5_2) true _ ?side1 ?side2 ?side3 ?side4 A17.out).mono ?_); (case side1 => exact cl (Kd.C_below HR124_0.out HB.out)); (case side2 => exact HC124_0.out); (case side3 => exact cl (Kd.C_below HR125_0.out HB.out)); (case side4 => exact HC125_0.out); rintro e w' ⟨rfl, ⟨nd, rfl⟩⟩; (try first | exact ⟨rfl, _, World.drewN_drewN _ _ _⟩ | exact ⟨rfl, _, Eq.trans (World.drewN_drewN _ _ _) (congrArg (World.drewN _) (Nat.add_assoc _ _ _))⟩))))
          go_roundg k2
          case measure => have := HJ2.out; have := HK2.out; omega
          case rel => exact ⟨(wrap64 (x5_2 + 1)), (by first | rfl | (simp; done) | (simp [*]; done)), H', ⟨by have := HJ2.out; have := HK2.out; omega⟩, ⟨bk BK122⟩, ⟨bk BK123⟩, ⟨bl HB⟩⟩
         ·replace c18 := Bool.eq_false_iff.mpr c18
          subst c18
          have H1 : (some false) = some r := by rw [if_neg (show ¬ (false = true) by decide)] at H; exact H
          clear H
          have H := H1
          clear H1
          obtain rfl := Option.some.inj H
          have hnb22 := NB122_123.out
          have hnc22 := NB123_122.out
          have hcz23_0 : wr.cell? ⟨gb122, 0, none⟩ = some (.int .i64 a0_0) := (blk_cell BK122.out 0).trans rfl
          have hcz23_1 : wr.cell? ⟨gb122, 1, none⟩ = some (.slice A0_1 l0_1.length c0_1) := (blk_cell BK122.out 1).trans rfl
          have hfz23_0 := blk_frozen BK122.out 0
          have hfz23_1 := blk_frozen BK122.out 1
          have p124 : 0 ≤ (x5_2 : Int) := ofd
          have q124 : x5_2 < (l0_1.length : Int) := ofd
          obtain ⟨ad124, A124_0, c124_0, e124, hx124_0, hl124_0, hi124_0⟩ := at_L1 HR0_1.out x5_2 p124 q124
          cases e124
          replace hx124_0 := (HB.out.cell (World.block_lt_of_cell? w _ hx124_0)).trans hx124_0
          have HR124_0 := Aside0.mk hi124_0
          have HC124_0 := Aside0.mk hl124_0
          clear hi124_0 hl124_0
          replace p124 := eq_true p124
          replace q124 := eq_true q124
          have hcz24_0 : wr.cell? ⟨gb123, 0, none⟩ = some (.int .i64 a1_0) := (blk_cell BK123.out 0).trans rfl
          have hcz24_1 : wr.cell? ⟨gb123, 1, none⟩ = some (.slice A1_1 l1_1.length c1_1) := (blk_cell BK123.out 1).trans rfl
          have hfz24_0 := blk_frozen BK123.out 0
          have hfz24_1 := blk_frozen BK123.out 1
          have p125 : 0 ≤ (x5_2 : Int) := ofd
          have q125 : x5_2 < (l1_1.length : Int) := ofd
          obtain ⟨ad125, A125_0, c125_0, e125, hx125_0, hl125_0, hi125_0⟩ := at_L1 HR1_1.out x5_2 p125 q125
          cases e125
          replace hx125_0 := (HB.out.cell (World.block_lt_of_cell? w _ hx125_0)).trans hx125_0
          have HR125_0 := Aside0.mk hi125_0
          have HC125_0 := Aside0.mk hl125_0
          clear hi125_0 hl125_0
          replace p125 := eq_true p125
          replace q125 := eq_true q125
          go_wp2_with (first | (go_at_call 47; (with_reducible refine (gampref05_Same.calls k2 _ _ (rd_L1 l0_1 x5_2) _ _ (rd_L1 l1_1 x5_2) false _ ?side1 ?side2 ?side3 ?side4 A17.out).mono ?_); (case side1 => exact cl (Kd.C_below HR124_0.out HB.out)); (case side2 => exact HC124_0.out); (case side3 => exact cl (Kd.C_below HR125_0.out HB.out)); (case side4 => exact HC125_0.out); rintro e w' ⟨rfl, ⟨nd, rfl⟩⟩; (try first | exact ⟨rfl, _, World.drewN_drewN _ _ _⟩ | exact ⟨rfl, _, Eq.trans (World.drewN_drewN _ _ _) (congrArg (World.drewN _) (Nat.add_assoc _ _ _))⟩)))
          repeat (go_quiet (first | (go_at_call 47; (with_reducible refine (gampref05_Same.calls k2 _ _ (rd_L1 l0_1 x5_2) _ _ (rd_L1 l1_1 x5_2) false _ ?side1 ?side2 ?side3 ?side4 A17.out).mono ?_); (case side1 => exact cl (Kd.C_below HR124_0.out HB.out)); (case side2 => exact HC124_0.out); (case side3 => exact cl (Kd.C_below HR125_0.out HB.out)); (case side4 => exact HC125_0.out); rintro e w' ⟨rfl, ⟨nd, rfl⟩⟩; (try first | exact ⟨rfl, _, World.drewN_drewN _ _ _⟩ | exact ⟨rfl, _, Eq.trans (World.drewN_drewN _ _ _) (congrArg (World.drewN _) (Nat.add_assoc _ _ _))⟩))); try go_wp2_with (first | (go_at_call 47; (with_reducible refine (gampref05_Same.calls k2 _ _ (rd_L1 l0_1 x5_2) _ _ (rd_L1 l1_1 x5_2) false _ ?side1 ?side2 ?side3 ?side4 A17.out).mono ?_); (case side1 => exact cl (Kd.C_below HR124_0.out HB.out)); (case side2 => exact HC124_0.out); (case side3 => exact cl (Kd.C_below HR125_0.out HB.out)); (case side4 => exact HC125_0.out); rintro e w' ⟨rfl, ⟨nd, rfl⟩⟩; (try first | exact ⟨rfl, _, World.drewN_drewN _ _ _⟩ | exact ⟨rfl, _, Eq.trans (World.drewN_drewN _ _ _) (congrArg (World.drewN _) (Nat.add_assoc _ _ _))⟩))))
          go_ret
          exact ⟨by first | rfl | (simp [errW_none, errW_some] <;> rfl) | (simp [*, errW_none, errW_some] <;> rfl), by repeat (first | (with_reducible first | exact HB.out | apply below_alloc | apply pw_below_drewN | apply below_drew1 | refine below_set ?_ GE122.out | refine below_set ?_ GE123.out) | exact HB.out)⟩
        ·rw [if_neg c16] at H
         exact absurd H (by simp)
       ·rw [if_neg c15] at H
        exact absurd H (by simp)
      ·rw [if_neg c14] at H
       have c14b0 : decide (x5_2 < (l0_1.length : Int)) = false := decide_eq_false c14
       clear c14
       obtain rfl := Option.some.inj H
       have hnb25 := NB122_123.out
       have hnc25 := NB123_122.out
       have hcz26_0 : wr.cell? ⟨gb122, 0, none⟩ = some (.int .i64 a0_0) := (blk_cell BK122.out 0).trans rfl
       have hcz26_1 : wr.cell? ⟨gb122, 1, none⟩ = some (.slice A0_1 l0_1.length c0_1) := (blk_cell BK122.out 1).trans rfl
       have hfz26_0 := blk_frozen BK122.out 0
       have hfz26_1 := blk_frozen BK122.out 1
       go_wp2
       repeat (go_quiet (fail); try go_wp2)
       go_ret
       exact ⟨by first | rfl | (simp [errW_none, errW_some] <;> rfl) | (simp [*, errW_none, errW_some] <;> rfl), by repeat (first | (with_reducible first | exact HB.out | apply below_alloc | apply pw_below_drewN | apply below_drew1 | refine below_set ?_ GE122.out | refine below_set ?_ GE123.out) | exact HB.out)⟩
def gampref05_SamePoly.f (k : Nat) (a0_0 : Int) (l0_1 : List Int) (a1_0 : Int) (l1_1 : List Int) : Option (Bool) := if a0_0 = a1_0 then ((gampref05_Same.f k l0_1 l1_1).bind fun t129 => (some t129)) else (some false)
theorem gampref05_SamePoly.mono : ∀ a0 a1 a2 a3 k, LeO (gampref05_SamePoly.f k a0 a1 a2 a3) (gampref05_SamePoly.f (k + 1) a0 a1 a2 a3) := by
  intro a0 a1 a2 a3 k
  unfold gampref05_SamePoly.f
  repeat' first
      | (with_reducible exact gampref05_Same.mono _ _ _)
      | (with_reducible exact LeO.refl _)
      | (with_reducible exact LeO.none _)
      | (with_reducible refine LeO.ite ?_ ?_)
      | (with_reducible refine LeO.bind ?_ (fun _ => ?_))
      | exact gampref05_Same.mono _ _ _
      | exact LeO.none _
      | refine LeO.ite ?_ ?_
      | refine LeO.bind ?_ (fun _ => ?_)
set_option maxHeartbeats 8000000 in
set_option maxRecDepth 100000 in
theorem gampref05_SamePoly.calls (k : Nat) (a0_0 : Int) (A0_1 : Option Addr) (c0_1 : Nat) (l0_1 : List Int) (a1_0 : Int) (A1_1 : Option Addr) (c1_1 : Nat) (l1_1 : List Int) (r : Bool) (w : World) (hr0_1 : Kd.C (Kd.int .i64) w A0_1 l0_1.length l0_1) (hc0_1 : l0_1.length ≤ c0_1) (hr1_1 : Kd.C (Kd.int .i64) w A1_1 l1_1.length l1_1) (hc1_1 : l1_1.length ≤ c1_1) (h : gampref05_SamePoly.f k a0_0 l0_1 a1_0 l1_1 = some r) :
  Calls Try.prog 40 #[.agg #[.int .i64 a0_0, .slice A0_1 l0_1.length c0_1], .agg #[.int .i64 a1_0, .slice A1_1 l1_1.length c1_1]] w fun e w' => e = .returned (.bool r) ∧ Below w.heap.size w w' := by
 have hu61 := Try.underlying61
 have HR0_1 := Aside0.mk hr0_1
 have HC0_1 := Aside0.mk hc0_1
 clear hr0_1 hc0_1
 have HR1_1 := Aside0.mk hr1_1
 have HC1_1 := Aside0.mk hc1_1
 clear hr1_1 hc1_1
 have HB := Aside0.mk (Below.refl w.heap.size w)
 have H : (if a0_0 = a1_0 then ((gampref05_Same.f k l0_1 l1_1).bind fun t129 => (some t129)) else (some false)) = some r := h
 clear h
 by_cases c3 : a0_0 = a1_0
 ·rw [if_pos c3] at H
  have c3b0 : (a0_0 == a1_0) = true := beq_iff_eq.mpr c3
  have c3b1 : (a0_0 != a1_0) = false := bne_eq_false_iff_eq.mpr c3
  clear c3
  replace H := Option.bind_eq_some_iff.mp H
  obtain ⟨t129, A40, H⟩ := H
  replace H : (some t129) = some r := H
  have A4 := Aside0.mk A40
  clear A40
  obtain rfl := Option.some.inj H
  go_enter Try.func40, Try.ntmps40
  go_wp2_with (first | ((with_reducible refine gate_dst (N := 2) rfl ?_); refine box_event ?hg (N := 2) ?hd (cs := #[.int .i64 a0_0, .slice A0_1 l0_1.length c0_1]) (t := 61) ?hr ?_; (case hd => rfl); (case hg => rfl); (case hr => first | (go_simp; done) | (go_simp; rfl)); intro gb127 hg w5 hbox hb; have n0_ := Aside0.mk (below_step (bl HB) hb); have n1_ := Aside0.mk (hbox); have n2_ := Aside0.mk ((by rw [hg]; exact (below_size (bl HB)) : w.heap.size ≤ gb127)); have n3_ := Aside0.mk ((by rw [hg]; exact (below_size (bl HB)) : w.heap.size ≤ gb127)); clear HB; have HB := n0_; have BK127 := n1_; have GW127 := n2_; have GE127 := n3_; clear n0_ n1_ n2_ n3_; clear hb hbox hg) | ((with_reducible refine gate_dst (N := 3) rfl ?_); refine box_event ?hg (N := 3) ?hd (cs := #[.int .i64 a1_0, .slice A1_1 l1_1.length c1_1]) (t := 61) ?hr ?_; (case hd => rfl); (case hg => rfl); (case hr => first | (go_simp; done) | (go_simp; rfl)); intro gb128 hg w6 hbox hb; have n0_ := Aside0.mk (blk_below (g := gb127) (o := .cells #[.int .i64 a0_0, .slice A0_1 l0_1.length c0_1] 61 (0, 0)) (bk BK127) hb); have n1_ := Aside0.mk (below_step (bl HB) hb); have n2_ := Aside0.mk (hbox); have n3_ := Aside0.mk ((by rw [hg]; exact (below_size (bl HB)) : w.heap.size ≤ gb128)); have n4_ := Aside0.mk ((by rw [hg]; exact (below_size (bl HB)) : w.heap.size ≤ gb128)); have n5_ := Aside0.mk ((by rw [hg]; exact Nat.ne_of_lt (blk_lt (g := gb127) (o := .cells #[.int .i64 a0_0, .slice A0_1 l0_1.length c0_1] 61 (0, 0)) (bk BK127)) : gb127 ≠ gb128)); have n6_ := Aside0.mk ((by rw [hg]; exact Nat.ne_of_gt (blk_lt (g := gb127) (o := .cells #[.int .i64 a0_0, .slice A0_1 l0_1.length c0_1] 61 (0, 0)) (bk BK127)) : gb128 ≠ gb127)); clear BK127; clear HB; have BK127 := n0_; have HB := n1_; have BK128 := n2_; have GW128 := n3_; have GE128 := n4_; have NB127_128 := n5_; have NB128_127 := n6_; clear n0_ n1_ n2_ n3_ n4_ n5_ n6_; clear hb hbox hg; have hnb7 := NB127_128.out; have hnc7 := NB128_127.out; have hcz8_0 : w6.cell? ⟨gb127, 0, none⟩ = some (.int .i64 a0_0) := (blk_cell BK127.out 0).trans rfl; have hcz8_1 : w6.cell? ⟨gb127, 1, none⟩ = some (.slice A0_1 l0_1.length c0_1) := (blk_cell BK127.out 1).trans rfl; have hfz8_0 := blk_frozen BK127.out 0; have hfz8_1 := blk_frozen BK127.out 1; have hcz9_0 : w6.cell? ⟨gb128, 0, none⟩ = some (.int .i64 a1_0) := (blk_cell BK128.out 0).trans rfl; have hcz9_1 : w6.cell? ⟨gb128, 1, none⟩ = some (.slice A1_1 l1_1.length c1_1) := (blk_cell BK128.out 1).trans rfl; have hfz9_0 := blk_frozen BK128.out 0; have hfz9_1 := blk_frozen BK128.out 1) | (go_at_call 47; (with_reducible refine (gampref05_Same.calls k _ _ l0_1 _ _ l1_1 t129 _ ?side1 ?side2 ?side3 ?side4 A4.out).mono ?_); (case side1 => exact cl (Kd.C_below HR0_1.out HB.out)); (case side2 => exact HC0_1.out); (case side3 => exact cl (Kd.C_below HR1_1.out HB.out)); (case side4 => exact HC1_1.out); rintro e w' ⟨rfl, ⟨nd, rfl⟩⟩))
  go_ret
  exact ⟨by first | rfl | (simp [errW_none, errW_some] <;> rfl) | (simp [*, errW_none, errW_some] <;> rfl), by repeat (first | (with_reducible first | exact HB.out | apply below_alloc | apply pw_below_drewN | apply below_drew1 | refine below_set ?_ GE127.out | refine below_set ?_ GE128.out) | exact HB.out)⟩
 ·rw [if_neg c3] at H
  have c3b0 : (a0_0 == a1_0) = false := beq_eq_false_iff_ne.mpr c3
  have c3b1 : (a0_0 != a1_0) = true := bne_iff_ne.mpr c3
  obtain rfl := Option.some.inj H
  go_enter Try.func40, Try.ntmps40
  go_wp2_with (first | ((with_reducible refine gate_dst (N := 2) rfl ?_); refine box_event ?hg (N := 2) ?hd (cs := #[.int .i64 a0_0, .slice A0_1 l0_1.length c0_1]) (t := 61) ?hr ?_; (case hd => rfl); (case hg => rfl); (case hr => first | (go_simp; done) | (go_simp; rfl)); intro gb127 hg w10 hbox hb; have n0_ := Aside0.mk (below_step (bl HB) hb); have n1_ := Aside0.mk (hbox); have n2_ := Aside0.mk ((by rw [hg]; exact (below_size (bl HB)) : w.heap.size ≤ gb127)); have n3_ := Aside0.mk ((by rw [hg]; exact (below_size (bl HB)) : w.heap.size ≤ gb127)); clear HB; have HB := n0_; have BK127 := n1_; have GW127 := n2_; have GE127 := n3_; clear n0_ n1_ n2_ n3_; clear hb hbox hg) | ((with_reducible refine gate_dst (N := 3) rfl ?_); refine box_event ?hg (N := 3) ?hd (cs := #[.int .i64 a1_0, .slice A1_1 l1_1.length c1_1]) (t := 61) ?hr ?_; (case hd => rfl); (case hg => rfl); (case hr => first | (go_simp; done) | (go_simp; rfl)); intro gb128 hg w11 hbox hb; have n0_ := Aside0.mk (blk_below (g := gb127) (o := .cells #[.int .i64 a0_0, .slice A0_1 l0_1.length c0_1] 61 (0, 0)) (bk BK127) hb); have n1_ := Aside0.mk (below_step (bl HB) hb); have n2_ := Aside0.mk (hbox); have n3_ := Aside0.mk ((by rw [hg]; exact (below_size (bl HB)) : w.heap.size ≤ gb128)); have n4_ := Aside0.mk ((by rw [hg]; exact (below_size (bl HB)) : w.heap.size ≤ gb128)); have n5_ := Aside0.mk ((by rw [hg]; exact Nat.ne_of_lt (blk_lt (g := gb127) (o := .cells #[.int .i64 a0_0, .slice A0_1 l0_1.length c0_1] 61 (0, 0)) (bk BK127)) : gb127 ≠ gb128)); have n6_ := Aside0.mk ((by rw [hg]; exact Nat.ne_of_gt (blk_lt (g := gb127) (o := .cells #[.int .i64 a0_0, .slice A0_1 l0_1.length c0_1] 61 (0, 0)) (bk BK127)) : gb128 ≠ gb127)); clear BK127; clear HB; have BK127 := n0_; have HB := n1_; have BK128 := n2_; have GW128 := n3_; have GE128 := n4_; have NB127_128 := n5_; have NB128_127 := n6_; clear n0_ n1_ n2_ n3_ n4_ n5_ n6_; clear hb hbox hg; have hnb12 := NB127_128.out; have hnc12 := NB128_127.out; have hcz13_0 : w11.cell? ⟨gb127, 0, none⟩ = some (.int .i64 a0_0) := (blk_cell BK127.out 0).trans rfl; have hcz13_1 : w11.cell? ⟨gb127, 1, none⟩ = some (.slice A0_1 l0_1.length c0_1) := (blk_cell BK127.out 1).trans rfl; have hfz13_0 := blk_frozen BK127.out 0; have hfz13_1 := blk_frozen BK127.out 1; have hcz14_0 : w11.cell? ⟨gb128, 0, none⟩ = some (.int .i64 a1_0) := (blk_cell BK128.out 0).trans rfl; have hcz14_1 : w11.cell? ⟨gb128, 1, none⟩ = some (.slice A1_1 l1_1.length c1_1) := (blk_cell BK128.out 1).trans rfl; have hfz14_0 := blk_frozen BK128.out 0; have hfz14_1 := blk_frozen BK128.out 1))
  go_ret
  exact ⟨by first | rfl | (simp [errW_none, errW_some] <;> rfl) | (simp [*, errW_none, errW_some] <;> rfl), by repeat (first | (with_reducible first | exact HB.out | apply below_alloc | apply pw_below_drewN | apply below_drew1 | refine below_set ?_ GE127.out | refine below_set ?_ GE128.out) | exact HB.out)⟩
noncomputable def gamplaw05_lives.f (k : Nat)  : Option (Bool) := (strap_Equal.f 3 (([1, 2, 1] : List Int)) (([2, 1, 2] : List Int))).bind fun bt136 => ((strap_Normal.f 3 (([1, 1, 2] : List Int))).bind fun bt141 => ((strap_Alexander.f 2 (([1, 1, 1] : List Int))).bind fun bt150 => (if bt136.1 = true then (if bt136.2 = 0 then (if bt141.2.2 = 0 then ((gampref05_SameBraid.f k bt141.1 bt141.2.1 0 (([(([1, 0, 2] : List Int)), (([2, 0, 1] : List Int))] : List (List Int)))).bind fun t165 => (if t165 = true then (if bt150.2.2 = 0 then ((gampref05_SamePoly.f k bt150.1 bt150.2.1 0 (([1, (-1), 1] : List Int))).bind fun t169 => (some t169)) else (some false)) else (some false))) else (some false)) else (some false)) else (some false))))
theorem gamplaw05_lives.mono : ∀ k, LeO (gamplaw05_lives.f k ) (gamplaw05_lives.f (k + 1) ) := by
  intro  k
  unfold gamplaw05_lives.f
  repeat' first
      | (with_reducible exact gampref05_SameBraid.mono _ _ _ _ _)
      | (with_reducible exact gampref05_SamePoly.mono _ _ _ _ _)
      | (with_reducible exact LeO.refl _)
      | (with_reducible exact LeO.none _)
      | (with_reducible refine LeO.ite ?_ ?_)
      | (with_reducible refine LeO.bind ?_ (fun _ => ?_))
      | exact gampref05_SameBraid.mono _ _ _ _ _
      | exact gampref05_SamePoly.mono _ _ _ _ _
      | exact LeO.none _
      | refine LeO.ite ?_ ?_
      | refine LeO.bind ?_ (fun _ => ?_)
theorem FK_row' {w : World} {A : Option Addr} {c : Nat} {l : List Int} (h : Kd.C (Kd.int .i64) w A l.length l) (hl : l.length ≤ c) : Kd.FK (Kd.slice 3 (Kd.int .i64)) w (fun _ => True) l [.slice A l.length c] :=
  Kd.FK_slice_mk hl (Kd.F_mono (Kd.C_F (Kd.heap_int _) h) (fun _ _ => trivial))
set_option maxHeartbeats 8000000 in
set_option maxRecDepth 100000 in
theorem gamplaw05_lives.calls (k : Nat) (r : Bool) (w : World) (h : gamplaw05_lives.f k = some r) :
  Calls Try.prog 20 #[] w fun e w' => e = .returned (.bool r) ∧ Below w.heap.size w w' := by
 have e50 : gamplaw05_lives.f 50 = some true := by
  unfold gamplaw05_lives.f
  rw [Pure.livesE, Pure.livesN, alex_lives]
  simp only [Option.bind_some]
  decide +kernel
 have e1 := at_rounds (fun k => gamplaw05_lives.mono k) (show k ≤ 50 + k by omega) h
 rw [at_rounds (fun k => gamplaw05_lives.mono k) (show 50 ≤ 50 + k by omega) e50] at e1
 cases e1
 clear e50 h
 have e1' := Pure.livesE
 have e2' := Pure.livesN
 have e3' := alex_lives
 obtain ⟨k7, e4'⟩ : ∃ k, gampref05_SameBraid.f k 0 [[1, 0, 2], [2, 0, 1]] 0 [[1, 0, 2], [2, 0, 1]] = some true := ⟨50, by decide +kernel⟩
 obtain ⟨k8, e5'⟩ : ∃ k, gampref05_SamePoly.f k 0 [1, -1, 1] 0 [1, -1, 1] = some true := ⟨50, by decide +kernel⟩
 obtain ⟨U1, hU1'⟩ : ∃ L, L = ([1, 2, 1] : List Int) := ⟨_, rfl⟩
 obtain ⟨U2, hU2'⟩ : ∃ L, L = ([2, 1, 2] : List Int) := ⟨_, rfl⟩
 obtain ⟨U3, hU3'⟩ : ∃ L, L = ([1, 1, 2] : List Int) := ⟨_, rfl⟩
 obtain ⟨U4, hU4'⟩ : ∃ L, L = ([1, 1, 1] : List Int) := ⟨_, rfl⟩
 rw [← hU1', ← hU2'] at e1'
 rw [← hU3'] at e2'
 rw [← hU4'] at e3'
 obtain ⟨N1, hN1'⟩ : ∃ L, L = ([[1, 0, 2], [2, 0, 1]] : List (List Int)) := ⟨_, rfl⟩
 obtain ⟨P1, hP1'⟩ : ∃ L, L = ([1, -1, 1] : List Int) := ⟨_, rfl⟩
 rw [← hN1'] at e2'
 rw [← hP1'] at e3'
 have e4'' : gampref05_SameBraid.f k7 0 N1 0 [[1, 0, 2], [2, 0, 1]] = some true := by rw [hN1']; exact e4'
 have e5'' : gampref05_SamePoly.f k8 0 P1 0 [1, -1, 1] = some true := by rw [hP1']; exact e5'
 clear e4' e5' hN1' hP1'
 obtain ⟨U5, hU5'⟩ : ∃ L, L = ([1, 0, 2] : List Int) := ⟨_, rfl⟩
 obtain ⟨U6, hU6'⟩ : ∃ L, L = ([2, 0, 1] : List Int) := ⟨_, rfl⟩
 obtain ⟨U7, hU7'⟩ : ∃ L, L = ([1, -1, 1] : List Int) := ⟨_, rfl⟩
 rw [← hU5', ← hU6'] at e4''
 rw [← hU7'] at e5''
 obtain ⟨L1, hL1'⟩ : ∃ L, L = [U5, U6] := ⟨_, rfl⟩
 rw [← hL1'] at e4''
 have hU1 := Aside0.mk hU1'
 have hU2 := Aside0.mk hU2'
 have hU3 := Aside0.mk hU3'
 have hU4 := Aside0.mk hU4'
 have hU5 := Aside0.mk hU5'
 have hU6 := Aside0.mk hU6'
 have hU7 := Aside0.mk hU7'
 have hL1 := Aside0.mk hL1'
 have E1 := Aside0.mk e1'
 have E2 := Aside0.mk e2'
 have E3 := Aside0.mk e3'
 have E4 := Aside0.mk e4''
 have E5 := Aside0.mk e5''
 clear e1' e2' e3' e4'' e5'' hU1' hU2' hU3' hU4' hU5' hU6' hU7' hL1'
 have HB := Aside0.mk (Below.refl w.heap.size w)
 go_enter Try.func20, Try.ntmps20
 go_upto_region 2 with (first
  | ((with_reducible refine gate_dst (N := 8) rfl ?_); (try (refine gate_guard (by rfl) ?_; dsimp only)); refine Kd.R_lit (Kd.int .i64) _ 3 ?hg (N := 8) ?hd (xs := ([1, 2, 1] : List Int)) (inner := [.int .i64 1, .int .i64 2, .int .i64 1]) (ok := fun _ => True) (okp := fun _ => True) ?hr ?hp (fun _ hk => hk) trivial (Below.refl _ _) (Nat.le_refl _) (by simp) ?_; (case hd => rfl); (case hg => rfl); (case hr => first | (go_simp; done) | (go_simp; rfl)); (case hp => exact (Reps.one (show Kd.M (Kd.int .i64) _ _ _ 1 [.int .i64 1] from rfl) (Reps.one (show Kd.M (Kd.int .i64) _ _ _ 2 [.int .i64 2] from rfl) (Reps.one (show Kd.M (Kd.int .i64) _ _ _ 1 [.int .i64 1] from rfl) (Reps.none _ _))))); intro v8 w8 ho hb hg_ hnew_; clear hg_ hnew_; rw [← hU1.out] at ho; obtain ⟨A8, c8, rfl⟩ := Kd.R_slice ho; have HU1 := Aside0.mk (Kd.R_reads' ho).2.2; have HU1c := Aside0.mk (Kd.R_reads' ho).2.1; clear ho; have n_HB := Aside0.mk (below_step HB.out hb); clear  HB; have HB := n_HB; clear  n_HB; clear hb)
  | ((with_reducible refine gate_dst (N := 9) rfl ?_); (try (refine gate_guard (by rfl) ?_; dsimp only)); refine Kd.R_lit (Kd.int .i64) _ 3 ?hg (N := 9) ?hd (xs := ([2, 1, 2] : List Int)) (inner := [.int .i64 2, .int .i64 1, .int .i64 2]) (ok := fun _ => True) (okp := fun _ => True) ?hr ?hp (fun _ hk => hk) trivial (Below.refl _ _) (Nat.le_refl _) (by simp) ?_; (case hd => rfl); (case hg => rfl); (case hr => first | (go_simp; done) | (go_simp; rfl)); (case hp => exact (Reps.one (show Kd.M (Kd.int .i64) _ _ _ 2 [.int .i64 2] from rfl) (Reps.one (show Kd.M (Kd.int .i64) _ _ _ 1 [.int .i64 1] from rfl) (Reps.one (show Kd.M (Kd.int .i64) _ _ _ 2 [.int .i64 2] from rfl) (Reps.none _ _))))); intro v9 w9 ho hb hg_ hnew_; clear hg_ hnew_; rw [← hU2.out] at ho; obtain ⟨A9, c9, rfl⟩ := Kd.R_slice ho; have HU2 := Aside0.mk (Kd.R_reads' ho).2.2; have HU2c := Aside0.mk (Kd.R_reads' ho).2.1; clear ho; have n_HU1 := Aside0.mk (Kd.C_below HU1.out hb); have n_HB := Aside0.mk (below_step HB.out hb); clear HU1 HB; have HU1 := n_HU1; have HB := n_HB; clear n_HU1 n_HB; clear hb)
  | (go_at_call 23; (with_reducible refine (strap_Equal.calls 3 _ _ U1 _ _ U2 true 0 _ HU1.out HU1c.out HU2.out HU2c.out E1.out).mono ?_); rintro e w10 ⟨rfl, hb⟩; clear HU1 HU1c HU2 HU2c; have n_HB := Aside0.mk (below_step HB.out hb); clear  HB; have HB := n_HB; clear  n_HB; clear hb))
 go_upto_region 3 with (first
  | ((with_reducible refine gate_dst (N := 14) rfl ?_); (try (refine gate_guard (by rfl) ?_; dsimp only)); refine Kd.R_lit (Kd.int .i64) _ 3 ?hg (N := 14) ?hd (xs := ([1, 1, 2] : List Int)) (inner := [.int .i64 1, .int .i64 1, .int .i64 2]) (ok := fun _ => True) (okp := fun _ => True) ?hr ?hp (fun _ hk => hk) trivial (Below.refl _ _) (Nat.le_refl _) (by simp) ?_; (case hd => rfl); (case hg => rfl); (case hr => first | (go_simp; done) | (go_simp; rfl)); (case hp => exact (Reps.one (show Kd.M (Kd.int .i64) _ _ _ 1 [.int .i64 1] from rfl) (Reps.one (show Kd.M (Kd.int .i64) _ _ _ 1 [.int .i64 1] from rfl) (Reps.one (show Kd.M (Kd.int .i64) _ _ _ 2 [.int .i64 2] from rfl) (Reps.none _ _))))); intro v14 w14 ho hb hg_ hnew_; clear hg_ hnew_; rw [← hU3.out] at ho; obtain ⟨A14, c14, rfl⟩ := Kd.R_slice ho; have HU3 := Aside0.mk (Kd.R_reads' ho).2.2; have HU3c := Aside0.mk (Kd.R_reads' ho).2.1; clear ho; have n_HB := Aside0.mk (below_step HB.out hb); clear  HB; have HB := n_HB; clear  n_HB; clear hb)
  | (go_at_call 17; (with_reducible refine (strap_Normal.calls 3 _ _ U3 0 N1 0 _ HU3.out HU3c.out E2.out).mono ?_); rintro e w15 ⟨v15, rfl, ho, hb⟩; have hR := Kd.S_R ho; obtain ⟨A15, c15, rfl⟩ := Kd.R_slice hR; have HN := Aside0.mk (Kd.R_reads' hR).2.2; have HNc := Aside0.mk (Kd.R_reads' hR).2.1; clear ho hR HU3 HU3c; have n_HB := Aside0.mk (below_step HB.out hb); clear  HB; have HB := n_HB; clear  n_HB; clear hb))
 have n_HN := Aside0.mk (Kd.C_alloc HN.out (.cells #[.int .i64 0, .slice A15 N1.length c15] 26 (0, 0)))
 have n_HB := Aside0.mk (below_alloc HB.out (.cells #[.int .i64 0, .slice A15 N1.length c15] 26 (0, 0)))
 have HB3 : Aside0 ((World.alloc w15 (.cells #[.int .i64 0, .slice A15 N1.length c15] 26 (0, 0))).heap[(w15).heap.size]? = some (.cells #[.int .i64 0, .slice A15 N1.length c15] 26 (0, 0))) := ⟨blk_new _ _⟩
 generalize World.alloc w15 (.cells #[.int .i64 0, .slice A15 N1.length c15] 26 (0, 0)) = w_B3 at n_HN n_HB HB3 ⊢
 generalize (w15).heap.size = gB3 at HB3 ⊢
 clear HN HB
 have HN := n_HN; have HB := n_HB
 clear n_HN n_HB
 go_upto_region 4 with (first
  | ((with_reducible refine gate_dst (N := 19) rfl ?_); (try (refine gate_guard (by rfl) ?_; dsimp only)); refine Kd.R_lit (Kd.int .i64) _ 3 ?hg (N := 19) ?hd (xs := ([1, 1, 1] : List Int)) (inner := [.int .i64 1, .int .i64 1, .int .i64 1]) (ok := fun _ => True) (okp := fun _ => True) ?hr ?hp (fun _ hk => hk) trivial (Below.refl _ _) (Nat.le_refl _) (by simp) ?_; (case hd => rfl); (case hg => rfl); (case hr => first | (go_simp; done) | (go_simp; rfl)); (case hp => exact (Reps.one (show Kd.M (Kd.int .i64) _ _ _ 1 [.int .i64 1] from rfl) (Reps.one (show Kd.M (Kd.int .i64) _ _ _ 1 [.int .i64 1] from rfl) (Reps.one (show Kd.M (Kd.int .i64) _ _ _ 1 [.int .i64 1] from rfl) (Reps.none _ _))))); intro v19 w19 ho hb hg_ hnew_; clear hg_ hnew_; rw [← hU4.out] at ho; obtain ⟨A19, c19, rfl⟩ := Kd.R_slice ho; have HU4 := Aside0.mk (Kd.R_reads' ho).2.2; have HU4c := Aside0.mk (Kd.R_reads' ho).2.1; clear ho; have n_HN := Aside0.mk (Kd.C_below HN.out hb); have n_HB3 := Aside0.mk (blk_below HB3.out hb); have n_HB := Aside0.mk (below_step HB.out hb); clear HN HB3 HB; have HN := n_HN; have HB3 := n_HB3; have HB := n_HB; clear n_HN n_HB3 n_HB; clear hb)
  | (go_at_call 37; (with_reducible refine (strap_Alexander.calls 2 _ _ U4 0 P1 0 _ HU4.out HU4c.out E3.out).mono ?_); rintro e w20 ⟨v20, rfl, ho, hb⟩; obtain ⟨A20, c20, rfl⟩ := Kd.R_slice ho; have HP := Aside0.mk (Kd.R_reads' ho).2.2; have HPc := Aside0.mk (Kd.R_reads' ho).2.1; clear ho HU4 HU4c; have n_HN := Aside0.mk (Kd.C_below HN.out hb); have n_HB3 := Aside0.mk (blk_below HB3.out hb); have n_HB := Aside0.mk (below_step HB.out hb); clear HN HB3 HB; have HN := n_HN; have HB3 := n_HB3; have HB := n_HB; clear n_HN n_HB3 n_HB; clear hb))
 have n_HN := Aside0.mk (Kd.C_alloc HN.out (.cells #[.int .i64 0, .slice A20 P1.length c20] 61 (0, 0)))
 have n_HP := Aside0.mk (Kd.C_alloc HP.out (.cells #[.int .i64 0, .slice A20 P1.length c20] 61 (0, 0)))
 have n_HB3 := Aside0.mk (blk_alloc HB3.out (.cells #[.int .i64 0, .slice A20 P1.length c20] 61 (0, 0)))
 have n_HB := Aside0.mk (below_alloc HB.out (.cells #[.int .i64 0, .slice A20 P1.length c20] 61 (0, 0)))
 have HB5 : Aside0 ((World.alloc w20 (.cells #[.int .i64 0, .slice A20 P1.length c20] 61 (0, 0))).heap[(w20).heap.size]? = some (.cells #[.int .i64 0, .slice A20 P1.length c20] 61 (0, 0))) := ⟨blk_new _ _⟩
 generalize World.alloc w20 (.cells #[.int .i64 0, .slice A20 P1.length c20] 61 (0, 0)) = w_B5 at n_HN n_HP n_HB3 n_HB HB5 ⊢
 generalize (w20).heap.size = gB5 at HB5 ⊢
 clear HN HP HB3 HB
 have HN := n_HN; have HP := n_HP; have HB3 := n_HB3; have HB := n_HB
 clear n_HN n_HP n_HB3 n_HB
 have z3 := (blk_cell HB3.out 0).trans (show _ = some (Value.int .i64 0) from rfl)
 have z4 := (blk_cell HB3.out 1).trans (show _ = some (Value.slice A15 N1.length c15) from rfl)
 go_wp2_with (first
  | ((with_reducible refine gate_dst (N := 34) rfl ?_); (try (refine gate_guard (by rfl) ?_; dsimp only)); refine Kd.R_lit (Kd.int .i64) _ 3 ?hg (N := 34) ?hd (xs := ([1, 0, 2] : List Int)) (inner := [.int .i64 1, .int .i64 0, .int .i64 2]) (ok := fun _ => True) (okp := fun _ => True) ?hr ?hp (fun _ hk => hk) trivial (Below.refl _ _) (Nat.le_refl _) (by simp) ?_; (case hd => rfl); (case hg => rfl); (case hr => first | (go_simp; done) | (go_simp; rfl)); (case hp => exact (Reps.one (show Kd.M (Kd.int .i64) _ _ _ 1 [.int .i64 1] from rfl) (Reps.one (show Kd.M (Kd.int .i64) _ _ _ 0 [.int .i64 0] from rfl) (Reps.one (show Kd.M (Kd.int .i64) _ _ _ 2 [.int .i64 2] from rfl) (Reps.none _ _))))); intro v34 w34 ho hb hg_ hnew_; clear hg_ hnew_; rw [← hU5.out] at ho; obtain ⟨A34, c34, rfl⟩ := Kd.R_slice ho; have HU5 := Aside0.mk (Kd.R_reads' ho).2.2; have HU5c := Aside0.mk (Kd.R_reads' ho).2.1; clear ho; have n_HN := Aside0.mk (Kd.C_below HN.out hb); have n_HP := Aside0.mk (Kd.C_below HP.out hb); have n_HB3 := Aside0.mk (blk_below HB3.out hb); have n_HB5 := Aside0.mk (blk_below HB5.out hb); have n_HB := Aside0.mk (below_step HB.out hb); clear HN HP HB3 HB5 HB; have HN := n_HN; have HP := n_HP; have HB3 := n_HB3; have HB5 := n_HB5; have HB := n_HB; clear n_HN n_HP n_HB3 n_HB5 n_HB; clear hb)
  | ((with_reducible refine gate_dst (N := 35) rfl ?_); (try (refine gate_guard (by rfl) ?_; dsimp only)); refine Kd.R_lit (Kd.int .i64) _ 3 ?hg (N := 35) ?hd (xs := ([2, 0, 1] : List Int)) (inner := [.int .i64 2, .int .i64 0, .int .i64 1]) (ok := fun _ => True) (okp := fun _ => True) ?hr ?hp (fun _ hk => hk) trivial (Below.refl _ _) (Nat.le_refl _) (by simp) ?_; (case hd => rfl); (case hg => rfl); (case hr => first | (go_simp; done) | (go_simp; rfl)); (case hp => exact (Reps.one (show Kd.M (Kd.int .i64) _ _ _ 2 [.int .i64 2] from rfl) (Reps.one (show Kd.M (Kd.int .i64) _ _ _ 0 [.int .i64 0] from rfl) (Reps.one (show Kd.M (Kd.int .i64) _ _ _ 1 [.int .i64 1] from rfl) (Reps.none _ _))))); intro v35 w35 ho hb hg_ hnew_; clear hg_ hnew_; rw [← hU6.out] at ho; obtain ⟨A35, c35, rfl⟩ := Kd.R_slice ho; have HU6 := Aside0.mk (Kd.R_reads' ho).2.2; have HU6c := Aside0.mk (Kd.R_reads' ho).2.1; clear ho; have n_HN := Aside0.mk (Kd.C_below HN.out hb); have n_HP := Aside0.mk (Kd.C_below HP.out hb); have n_HU5 := Aside0.mk (Kd.C_below HU5.out hb); have n_HB3 := Aside0.mk (blk_below HB3.out hb); have n_HB5 := Aside0.mk (blk_below HB5.out hb); have n_HB := Aside0.mk (below_step HB.out hb); clear HN HP HU5 HB3 HB5 HB; have HN := n_HN; have HP := n_HP; have HU5 := n_HU5; have HB3 := n_HB3; have HB5 := n_HB5; have HB := n_HB; clear n_HN n_HP n_HU5 n_HB3 n_HB5 n_HB; clear hb)
  | ((with_reducible refine gate_dst (N := 36) rfl ?_); (try (refine gate_guard (by rfl) ?_; dsimp only)); refine Kd.N_lit (Kd.slice 3 (Kd.int .i64)) _ 22 ?hg (N' := 36) ?hd (xs := ([U5, U6] : List (List Int))) (inner := [.slice A34 U5.length c34, .slice A35 U6.length c35]) (ok := fun _ => True) (okp := fun _ => True) ?hr ?hp (fun _ hk => hk) trivial (Below.refl _ _) (Nat.le_refl _) (by simp) ?_; (case hd => rfl); (case hg => rfl); (case hr => first | (go_simp; done) | (go_simp; rfl)); (case hp => exact (Reps.one (FK_row' HU5.out HU5c.out) (Reps.one (FK_row' HU6.out HU6c.out) (Reps.none _ _)))); intro v36 w36 ho hb hg_ hnew_; clear hg_ hnew_; rw [← hL1.out] at ho; obtain ⟨A36, c36, rfl⟩ := Kd.N_slice ho; have HL1 := Aside0.mk (Kd.N_reads' ho).2.2; have HL1c := Aside0.mk (Kd.N_reads' ho).2.1; clear ho HU5 HU5c HU6 HU6c; have n_HN := Aside0.mk (Kd.C_below HN.out hb); have n_HP := Aside0.mk (Kd.C_below HP.out hb); have n_HB3 := Aside0.mk (blk_below HB3.out hb); have n_HB5 := Aside0.mk (blk_below HB5.out hb); have n_HB := Aside0.mk (below_step HB.out hb); clear HN HP HB3 HB5 HB; have HN := n_HN; have HP := n_HP; have HB3 := n_HB3; have HB5 := n_HB5; have HB := n_HB; clear n_HN n_HP n_HB3 n_HB5 n_HB; clear hb)
  | (go_at_call 21; (with_reducible refine (gampref05_SameBraid.calls k7 0 _ _ N1 0 _ _ L1 true _ HN.out HNc.out HL1.out HL1c.out E4.out).mono ?_); rintro e w38 ⟨rfl, hb⟩; clear HN HNc HL1 HL1c; have n_HP := Aside0.mk (Kd.C_below HP.out hb); have n_HB3 := Aside0.mk (blk_below HB3.out hb); have n_HB5 := Aside0.mk (blk_below HB5.out hb); have n_HB := Aside0.mk (below_step HB.out hb); clear HP HB3 HB5 HB; have HP := n_HP; have HB3 := n_HB3; have HB5 := n_HB5; have HB := n_HB; clear n_HP n_HB3 n_HB5 n_HB; clear hb; have z5 := (blk_cell HB5.out 0).trans (show _ = some (Value.int .i64 0) from rfl); have z6 := (blk_cell HB5.out 1).trans (show _ = some (Value.slice A20 P1.length c20) from rfl))
  | ((with_reducible refine gate_dst (N := 46) rfl ?_); (try (refine gate_guard (by rfl) ?_; dsimp only)); refine Kd.R_lit (Kd.int .i64) _ 3 ?hg (N := 46) ?hd (xs := ([1, (-1), 1] : List Int)) (inner := [.int .i64 1, .int .i64 (-1), .int .i64 1]) (ok := fun _ => True) (okp := fun _ => True) ?hr ?hp (fun _ hk => hk) trivial (Below.refl _ _) (Nat.le_refl _) (by simp) ?_; (case hd => rfl); (case hg => rfl); (case hr => first | (go_simp; done) | (go_simp; rfl)); (case hp => exact (Reps.one (show Kd.M (Kd.int .i64) _ _ _ 1 [.int .i64 1] from rfl) (Reps.one (show Kd.M (Kd.int .i64) _ _ _ (-1) [.int .i64 (-1)] from rfl) (Reps.one (show Kd.M (Kd.int .i64) _ _ _ 1 [.int .i64 1] from rfl) (Reps.none _ _))))); intro v46 w46 ho hb hg_ hnew_; clear hg_ hnew_; rw [← hU7.out] at ho; obtain ⟨A46, c46, rfl⟩ := Kd.R_slice ho; have HU7 := Aside0.mk (Kd.R_reads' ho).2.2; have HU7c := Aside0.mk (Kd.R_reads' ho).2.1; clear ho; have n_HP := Aside0.mk (Kd.C_below HP.out hb); have n_HB3 := Aside0.mk (blk_below HB3.out hb); have n_HB5 := Aside0.mk (blk_below HB5.out hb); have n_HB := Aside0.mk (below_step HB.out hb); clear HP HB3 HB5 HB; have HP := n_HP; have HB3 := n_HB3; have HB5 := n_HB5; have HB := n_HB; clear n_HP n_HB3 n_HB5 n_HB; clear hb)
  | (go_at_call 40; (with_reducible refine (gampref05_SamePoly.calls k8 0 _ _ P1 0 _ _ U7 true _ HP.out HPc.out HU7.out HU7c.out E5.out).mono ?_); rintro e w48 ⟨rfl, hb⟩; have n_HB3 := Aside0.mk (blk_below HB3.out hb); have n_HB5 := Aside0.mk (blk_below HB5.out hb); have n_HB := Aside0.mk (below_step HB.out hb); clear HB3 HB5 HB; have HB3 := n_HB3; have HB5 := n_HB5; have HB := n_HB; clear n_HB3 n_HB5 n_HB; clear hb))
 go_ret
 exact ⟨rfl, HB.out⟩
end Go.Proofs.Ytdldfdcedjmneaa.Lx

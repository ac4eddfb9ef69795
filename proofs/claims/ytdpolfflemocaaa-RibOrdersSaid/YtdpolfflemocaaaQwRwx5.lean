/- The declarations of Rwx5 that the claim Qw needs. -/
import Derived.Test.YtdpolfflemocaaaQwTkP
import Derived.Test.YtdpolfflemocaaaQwRwx0
import Derived.Test.YtdpolfflemocaaaQwRwx4
namespace Go.Proofs.Ytdpolfflemocaaa.Rw
open Go.RowKit Go.Proofs.Ytdpolfflemocaaa.Own Go.Proofs.Ytdpolfflemocaaa.Rx Go.Proofs.YtdpolfflemocaaaW.PrintWords Go.Proofs.YtdpolfflemocaaaW.PrintLast Go.Proofs.YtdpolfflemocaaaW.PrintMore
attribute [local go_sem] max2_int min2_int max_two min_two max_three min_three max_four min_four
set_option linter.unusedVariables false
set_option linter.unusedSimpArgs false
mutual
def gamplaw04_RibOrders.j0 : Nat → List Int → Bool → Int → List (S52) → Option (Bool)
  | 0, _, _, _, _ => none
  | k + 1, x6, x90, x168000, x168001 => if x90 = true then (some false) else (gamplaw04_RibOrders.l0 k x6 0 x168000 x168001)
def gamplaw04_RibOrders.l0 : Nat → List Int → Int → Int → List (S52) → Option (Bool)
  | 0, _, _, _, _ => none
  | k + 1, x6, x8, x168000, x168001 => if x8 < (x6.length : Int) then (if 0 ≤ x8 then (if (rd x6 x8) < 0 then (some false) else (if (rd x6 x8) ≥ x168000 then (some false) else (gamplaw04_RibOrders.l0 k x6 (wrap64 (x8 + 1)) x168000 x168001))) else (none)) else ((Re.gampref04_Ring.f k x168001 x6).bind fun t184 => (some t184))
end
def gamplaw04_RibOrders.f (k : Nat) (a0_0 : Int) (l0_1 : List (S52)) : Option (Bool) := (Rx.gamplaw04_few.f a0_0 l0_1).bind fun bt163 => ((Rx.rib_Order.f k bt163.1 bt163.2).bind fun bt168 => ((rib_Ring.f k bt163.1 bt163.2).bind fun bt172 => ((gamplaw04_chordal.f k bt163.1 bt163.2).bind fun t176 => (if t176 = 1 then (if (wrap64 ((bt168.1.length : Int) + (bt172.1.length : Int))) = 0 then (if bt168.2 = 1 then (if bt172.2 = 1 then ((Rx.gamplaw04_lives.f k).bind fun t177 => (some t177)) else (some false)) else (some false)) else (some false)) else (if t176 = 0 then (if bt168.2 = 0 then ((Rx.gampref04_Permutation.f k bt168.1 bt163.1).bind fun t178 => (if t178 = true then ((Re.gampref04_Eliminates.f k bt163.2 bt168.1).bind fun t179 => (if t179 = true then (if (bt172.1.length : Int) = 0 then (if bt172.2 = 5 then ((Rx.gamplaw04_lives.f k).bind fun t180 => (some t180)) else (some false)) else (some false)) else (some false))) else (some false))) else (some false)) else (if (bt168.1.length : Int) = 0 then (if bt168.2 = 5 then (if bt172.2 = 0 then ((Rx.gamplaw04_lives.f k).bind fun t181 => (gamplaw04_RibOrders.j0 k bt172.1 (!t181) bt163.1 bt163.2)) else (gamplaw04_RibOrders.j0 k bt172.1 true bt163.1 bt163.2)) else (gamplaw04_RibOrders.j0 k bt172.1 true bt163.1 bt163.2)) else (gamplaw04_RibOrders.j0 k bt172.1 true bt163.1 bt163.2)))))))
set_option maxHeartbeats 8000000 in
set_option maxRecDepth 100000 in
theorem gamplaw04_RibOrders.calls (k : Nat) (a0_0 : Int) (A0_1 : Option Addr) (c0_1 : Nat) (l0_1 : List (S52)) (r : Bool) (w : World) (hr0_1 : Kd.C k52 w A0_1 l0_1.length l0_1) (hc0_1 : l0_1.length ≤ c0_1) (h : gamplaw04_RibOrders.f k a0_0 l0_1 = some r) (hrt : r = true) :
  Calls Try.prog 5 #[.agg #[.int .i64 a0_0, .slice A0_1 l0_1.length c0_1]] w fun e w' => e = .returned (.bool r) ∧ Below w.heap.size w w' := by
 have hu24 := Try.underlying24
 have HR0_1 := Aside0.mk hr0_1
 have HC0_1 := Aside0.mk hc0_1
 clear hr0_1 hc0_1
 have HB := Aside0.mk (Below.refl w.heap.size w)
 have H : ((Rx.gamplaw04_few.f a0_0 l0_1).bind fun bt163 => ((Rx.rib_Order.f k bt163.1 bt163.2).bind fun bt168 => ((rib_Ring.f k bt163.1 bt163.2).bind fun bt172 => ((gamplaw04_chordal.f k bt163.1 bt163.2).bind fun t176 => (if t176 = 1 then (if (wrap64 ((bt168.1.length : Int) + (bt172.1.length : Int))) = 0 then (if bt168.2 = 1 then (if bt172.2 = 1 then ((Rx.gamplaw04_lives.f k).bind fun t177 => (some t177)) else (some false)) else (some false)) else (some false)) else (if t176 = 0 then (if bt168.2 = 0 then ((Rx.gampref04_Permutation.f k bt168.1 bt163.1).bind fun t178 => (if t178 = true then ((Re.gampref04_Eliminates.f k bt163.2 bt168.1).bind fun t179 => (if t179 = true then (if (bt172.1.length : Int) = 0 then (if bt172.2 = 5 then ((Rx.gamplaw04_lives.f k).bind fun t180 => (some t180)) else (some false)) else (some false)) else (some false))) else (some false))) else (some false)) else (if (bt168.1.length : Int) = 0 then (if bt168.2 = 5 then (if bt172.2 = 0 then ((Rx.gamplaw04_lives.f k).bind fun t181 => (gamplaw04_RibOrders.j0 k bt172.1 (!t181) bt163.1 bt163.2)) else (gamplaw04_RibOrders.j0 k bt172.1 true bt163.1 bt163.2)) else (gamplaw04_RibOrders.j0 k bt172.1 true bt163.1 bt163.2)) else (gamplaw04_RibOrders.j0 k bt172.1 true bt163.1 bt163.2)))))))) = some r := h
 clear h
 replace H := Option.bind_eq_some_iff.mp H
 obtain ⟨⟨t163, t164⟩, A20, H⟩ := H
 replace H : ((Rx.rib_Order.f k t163 t164).bind fun bt168 => ((rib_Ring.f k t163 t164).bind fun bt172 => ((gamplaw04_chordal.f k t163 t164).bind fun t176 => (if t176 = 1 then (if (wrap64 ((bt168.1.length : Int) + (bt172.1.length : Int))) = 0 then (if bt168.2 = 1 then (if bt172.2 = 1 then ((Rx.gamplaw04_lives.f k).bind fun t177 => (some t177)) else (some false)) else (some false)) else (some false)) else (if t176 = 0 then (if bt168.2 = 0 then ((Rx.gampref04_Permutation.f k bt168.1 t163).bind fun t178 => (if t178 = true then ((Re.gampref04_Eliminates.f k t164 bt168.1).bind fun t179 => (if t179 = true then (if (bt172.1.length : Int) = 0 then (if bt172.2 = 5 then ((Rx.gamplaw04_lives.f k).bind fun t180 => (some t180)) else (some false)) else (some false)) else (some false))) else (some false))) else (some false)) else (if (bt168.1.length : Int) = 0 then (if bt168.2 = 5 then (if bt172.2 = 0 then ((Rx.gamplaw04_lives.f k).bind fun t181 => (gamplaw04_RibOrders.j0 k bt172.1 (!t181) t163 t164)) else (gamplaw04_RibOrders.j0 k bt172.1 true t163 t164)) else (gamplaw04_RibOrders.j0 k bt172.1 true t163 t164)) else (gamplaw04_RibOrders.j0 k bt172.1 true t163 t164))))))) = some r := H
 have A2 := Aside0.mk A20
 clear A20
 replace H := Option.bind_eq_some_iff.mp H
 obtain ⟨⟨t168, t169⟩, A30, H⟩ := H
 replace H : ((rib_Ring.f k t163 t164).bind fun bt172 => ((gamplaw04_chordal.f k t163 t164).bind fun t176 => (if t176 = 1 then (if (wrap64 ((t168.length : Int) + (bt172.1.length : Int))) = 0 then (if t169 = 1 then (if bt172.2 = 1 then ((Rx.gamplaw04_lives.f k).bind fun t177 => (some t177)) else (some false)) else (some false)) else (some false)) else (if t176 = 0 then (if t169 = 0 then ((Rx.gampref04_Permutation.f k t168 t163).bind fun t178 => (if t178 = true then ((Re.gampref04_Eliminates.f k t164 t168).bind fun t179 => (if t179 = true then (if (bt172.1.length : Int) = 0 then (if bt172.2 = 5 then ((Rx.gamplaw04_lives.f k).bind fun t180 => (some t180)) else (some false)) else (some false)) else (some false))) else (some false))) else (some false)) else (if (t168.length : Int) = 0 then (if t169 = 5 then (if bt172.2 = 0 then ((Rx.gamplaw04_lives.f k).bind fun t181 => (gamplaw04_RibOrders.j0 k bt172.1 (!t181) t163 t164)) else (gamplaw04_RibOrders.j0 k bt172.1 true t163 t164)) else (gamplaw04_RibOrders.j0 k bt172.1 true t163 t164)) else (gamplaw04_RibOrders.j0 k bt172.1 true t163 t164)))))) = some r := H
 have A3 := Aside0.mk A30
 clear A30
 replace H := Option.bind_eq_some_iff.mp H
 obtain ⟨⟨t172, t173⟩, A40, H⟩ := H
 replace H : ((gamplaw04_chordal.f k t163 t164).bind fun t176 => (if t176 = 1 then (if (wrap64 ((t168.length : Int) + (t172.length : Int))) = 0 then (if t169 = 1 then (if t173 = 1 then ((Rx.gamplaw04_lives.f k).bind fun t177 => (some t177)) else (some false)) else (some false)) else (some false)) else (if t176 = 0 then (if t169 = 0 then ((Rx.gampref04_Permutation.f k t168 t163).bind fun t178 => (if t178 = true then ((Re.gampref04_Eliminates.f k t164 t168).bind fun t179 => (if t179 = true then (if (t172.length : Int) = 0 then (if t173 = 5 then ((Rx.gamplaw04_lives.f k).bind fun t180 => (some t180)) else (some false)) else (some false)) else (some false))) else (some false))) else (some false)) else (if (t168.length : Int) = 0 then (if t169 = 5 then (if t173 = 0 then ((Rx.gamplaw04_lives.f k).bind fun t181 => (gamplaw04_RibOrders.j0 k t172 (!t181) t163 t164)) else (gamplaw04_RibOrders.j0 k t172 true t163 t164)) else (gamplaw04_RibOrders.j0 k t172 true t163 t164)) else (gamplaw04_RibOrders.j0 k t172 true t163 t164))))) = some r := H
 have A4 := Aside0.mk A40
 clear A40
 replace H := Option.bind_eq_some_iff.mp H
 obtain ⟨t176, A50, H⟩ := H
 replace H : (if t176 = 1 then (if (wrap64 ((t168.length : Int) + (t172.length : Int))) = 0 then (if t169 = 1 then (if t173 = 1 then ((Rx.gamplaw04_lives.f k).bind fun t177 => (some t177)) else (some false)) else (some false)) else (some false)) else (if t176 = 0 then (if t169 = 0 then ((Rx.gampref04_Permutation.f k t168 t163).bind fun t178 => (if t178 = true then ((Re.gampref04_Eliminates.f k t164 t168).bind fun t179 => (if t179 = true then (if (t172.length : Int) = 0 then (if t173 = 5 then ((Rx.gamplaw04_lives.f k).bind fun t180 => (some t180)) else (some false)) else (some false)) else (some false))) else (some false))) else (some false)) else (if (t168.length : Int) = 0 then (if t169 = 5 then (if t173 = 0 then ((Rx.gamplaw04_lives.f k).bind fun t181 => (gamplaw04_RibOrders.j0 k t172 (!t181) t163 t164)) else (gamplaw04_RibOrders.j0 k t172 true t163 t164)) else (gamplaw04_RibOrders.j0 k t172 true t163 t164)) else (gamplaw04_RibOrders.j0 k t172 true t163 t164)))) = some r := H
 have A5 := Aside0.mk A50
 clear A50
 by_cases c6 : t176 = 1
 ·rw [if_pos c6] at H
  have c6b0 : (t176 == 1) = true := beq_iff_eq.mpr c6
  have c6b1 : (t176 != 1) = false := bne_eq_false_iff_eq.mpr c6
  clear c6
  by_cases c7 : (wrap64 ((t168.length : Int) + (t172.length : Int))) = 0
  ·rw [if_pos c7] at H
   have c7b0 : ((wrap64 ((t168.length : Int) + (t172.length : Int))) == 0) = true := beq_iff_eq.mpr c7
   have c7b1 : ((wrap64 ((t168.length : Int) + (t172.length : Int))) != 0) = false := bne_eq_false_iff_eq.mpr c7
   clear c7
   by_cases c8 : t169 = 1
   ·rw [if_pos c8] at H
    have c8b0 : (t169 == 1) = true := beq_iff_eq.mpr c8
    have c8b1 : (t169 != 1) = false := bne_eq_false_iff_eq.mpr c8
    clear c8
    by_cases c9 : t173 = 1
    ·rw [if_pos c9] at H
     have c9b0 : (t173 == 1) = true := beq_iff_eq.mpr c9
     have c9b1 : (t173 != 1) = false := bne_eq_false_iff_eq.mpr c9
     clear c9
     replace H := Option.bind_eq_some_iff.mp H
     obtain ⟨t177, A100, H⟩ := H
     replace H : (some t177) = some r := H
     have A10 := Aside0.mk A100
     clear A100
     obtain rfl := Option.some.inj H
     go_enter Try.func5, Try.ntmps5
     go_wp2_with (first | ((with_reducible refine gate_dst (N := 1) rfl ?_); (try (refine gate_guard (by rfl) ?_; dsimp only)); refine box_event ?hg (N := 1) ?hd (cs := #[.int .i64 a0_0, .slice A0_1 l0_1.length c0_1]) (t := 24) ?hr ?_; (case hd => rfl); (case hg => rfl); (case hr => first | (go_simp; done) | (go_simp; rfl)); intro gb162 hg w11 hbox hb; have n0_ := Aside0.mk (below_step (bl HB) hb); have n1_ := Aside0.mk (hbox); have n2_ := Aside0.mk ((by rw [hg]; exact (below_size (bl HB)) : w.heap.size ≤ gb162)); have n3_ := Aside0.mk ((by rw [hg]; exact (below_size (bl HB)) : w.heap.size ≤ gb162)); clear HB; have HB := n0_; have BK162 := n1_; have GW162 := n2_; have GE162 := n3_; clear n0_ n1_ n2_ n3_; clear hb hbox hg; have hcz12_0 : w11.cell? ⟨gb162, 0, none⟩ = some (.int .i64 a0_0) := (blk_cell BK162.out 0).trans rfl; have hcz12_1 : w11.cell? ⟨gb162, 1, none⟩ = some (.slice A0_1 l0_1.length c0_1) := (blk_cell BK162.out 1).trans rfl; have hfz12_0 := blk_frozen BK162.out 0; have hfz12_1 := blk_frozen BK162.out 1) | (go_at_call 15; (with_reducible refine (Rx.gamplaw04_few.calls a0_0 _ _ l0_1 t163 t164 _ ?side1 ?side2 A2.out).mono ?_); (case side1 => exact cl (Kd.C_below HR0_1.out HB.out)); (case side2 => exact HC0_1.out); rintro e w13 ⟨v165, rfl, ho0, hb⟩; have n0_ := Aside0.mk (Kd.R_lower ho0 (below_size (bl HB))); have n1_ := Aside0.mk (blk_below (g := gb162) (o := .cells #[.int .i64 a0_0, .slice A0_1 l0_1.length c0_1] 24 (0, 0)) (bk BK162) hb); have n2_ := Aside0.mk (below_step (bl HB) hb); clear BK162; clear HB; have HO166 := n0_; have BK162 := n1_; have HB := n2_; clear n0_ n1_ n2_; (try clear hb); (try clear hb2); (try clear hk); (try clear hi); (try clear ho0)) | ((with_reducible refine gate_dst (N := 3) rfl ?_); (try (refine gate_guard (by rfl) ?_; dsimp only)); refine box_event ?hg (N := 3) ?hd (cs := #[.int .i64 0, .slice none 0 0]) (t := 24) ?hr ?_; (case hd => rfl); (case hg => rfl); (case hr => first | (go_simp; done) | (go_simp; rfl)); intro gb167 hg w14 hbox hb; have n0_ := Aside0.mk (Kd.R_below (rl HO166) hb); have n1_ := Aside0.mk (blk_below (g := gb162) (o := .cells #[.int .i64 a0_0, .slice A0_1 l0_1.length c0_1] 24 (0, 0)) (bk BK162) hb); have n2_ := Aside0.mk (below_step (bl HB) hb); have n3_ := Aside0.mk (hbox); have n4_ := Aside0.mk ((by rw [hg]; exact (below_size (bl HB)) : w.heap.size ≤ gb167)); have n5_ := Aside0.mk ((by rw [hg]; exact (below_size (bl HB)) : w.heap.size ≤ gb167)); have n6_ := Aside0.mk ((by rw [hg]; exact Nat.ne_of_lt (blk_lt (g := gb162) (o := .cells #[.int .i64 a0_0, .slice A0_1 l0_1.length c0_1] 24 (0, 0)) (bk BK162)) : gb162 ≠ gb167)); have n7_ := Aside0.mk ((by rw [hg]; exact Nat.ne_of_gt (blk_lt (g := gb162) (o := .cells #[.int .i64 a0_0, .slice A0_1 l0_1.length c0_1] 24 (0, 0)) (bk BK162)) : gb167 ≠ gb162)); clear HO166; clear BK162; clear HB; have HO166 := n0_; have BK162 := n1_; have HB := n2_; have BK167 := n3_; have GW167 := n4_; have GE167 := n5_; have NB162_167 := n6_; have NB167_162 := n7_; clear n0_ n1_ n2_ n3_ n4_ n5_ n6_ n7_; clear hb hbox hg; have hnb15 := NB167_162.out; have hnc15 := NB162_167.out; have hcz16_0 : w14.cell? ⟨gb167, 0, none⟩ = some (.int .i64 0) := (blk_cell BK167.out 0).trans rfl; have hcz16_1 : w14.cell? ⟨gb167, 1, none⟩ = some (.slice none 0 0) := (blk_cell BK167.out 1).trans rfl; have hfz16_0 := blk_frozen BK167.out 0; have hfz16_1 := blk_frozen BK167.out 1; obtain ⟨Ao17, co17, eo17⟩ := Kd.R_slice HO166.out; subst eo17) | (go_at_call 24; (with_reducible refine (Rx.rib_Order.calls k t163 _ _ t164 t168 t169 _ ?side1 ?side2 A3.out).mono ?_); (case side1 => refine (Kd.R_reads' (e := 52) (base := w.heap.size) (ok := fun k_ => True) (n := t164.length) (c := co17) ?_).2.2; exact (by (with_reducible repeat (first | apply Kd.R_alloc | apply Kd.R_drewN | apply Kd.R_drew)); exact (Kd.R_mono (Kd.R_far (p := ⟨gb167, 1, none⟩) (Kd.R_far (p := ⟨gb167, 0, none⟩) (Kd.R_types HO166.out BK167.out (by decide)) (fun _ hk => hk.2) (.int .i64 t163)) (fun _ hk => hk.2) (.slice Ao17 t164.length co17)) (fun _ h_ => h_.1)))); (case side2 => exact (Kd.R_reads' HO166.out).2.1); rintro e w18 ⟨v170, rfl, ho0, hb⟩; have n0_ := Aside0.mk (Kd.R_below (by (with_reducible repeat (first | apply Kd.R_alloc | apply Kd.R_drewN | apply Kd.R_drew)); exact (Kd.R_mono (Kd.R_far (p := ⟨gb167, 1, none⟩) (Kd.R_far (p := ⟨gb167, 0, none⟩) (Kd.R_types HO166.out BK167.out (by decide)) (fun _ hk => hk.2) (.int .i64 t163)) (fun _ hk => hk.2) (.slice Ao17 t164.length co17)) (fun _ h_ => h_.1))) hb); have n1_ := Aside0.mk (Kd.R_lower ho0 (below_size (bl HB))); have n2_ := Aside0.mk (blk_below (g := gb162) (o := .cells #[.int .i64 a0_0, .slice A0_1 l0_1.length c0_1] 24 (0, 0)) (by (with_reducible repeat (first | refine blk_drewN ?_ _ | refine blk_drew ?_ | refine blk_alloc ?_ _)); refine blk_far ?_ NB162_167.out _; (with_reducible repeat (first | refine blk_drewN ?_ _ | refine blk_drew ?_ | refine blk_alloc ?_ _)); refine blk_far ?_ NB162_167.out _; (with_reducible repeat (first | refine blk_drewN ?_ _ | refine blk_drew ?_ | refine blk_alloc ?_ _)); exact BK162.out) hb); have n3_ := Aside0.mk (blk_below (g := gb167) (o := .cells #[.int .i64 t163, .slice Ao17 t164.length co17] 24 (0, 0)) (by (with_reducible repeat (first | refine blk_drewN ?_ _ | refine blk_drew ?_ | refine blk_alloc ?_ _)); refine blk_put (cs := #[.int .i64 t163, .slice none 0 0]) ?_ 1 _ rfl; (with_reducible repeat (first | refine blk_drewN ?_ _ | refine blk_drew ?_ | refine blk_alloc ?_ _)); refine blk_put (cs := #[.int .i64 0, .slice none 0 0]) ?_ 0 _ rfl; (with_reducible repeat (first | refine blk_drewN ?_ _ | refine blk_drew ?_ | refine blk_alloc ?_ _)); exact BK167.out) hb); have n4_ := Aside0.mk (below_step (bl HB) hb); clear HO166; clear BK162; clear BK167; clear HB; have HO166 := n0_; have HO171 := n1_; have BK162 := n2_; have BK167 := n3_; have HB := n4_; clear n0_ n1_ n2_ n3_ n4_; (try clear hb); (try clear hb2); (try clear hk); (try clear hi); (try clear ho0); have hcz19_0 : w18.cell? ⟨gb167, 0, none⟩ = some (.int .i64 t163) := (blk_cell BK167.out 0).trans rfl; have hcz19_1 : w18.cell? ⟨gb167, 1, none⟩ = some (.slice Ao17 t164.length co17) := (blk_cell BK167.out 1).trans rfl; have hfz19_0 := blk_frozen BK167.out 0; have hfz19_1 := blk_frozen BK167.out 1) | (go_at_call 25; (with_reducible refine (rib_Ring.calls k t163 _ _ t164 t172 t173 _ ?side1 ?side2 A4.out).mono ?_); (case side1 => exact cl ((Kd.R_reads' HO166.out).2.2)); (case side2 => exact (Kd.R_reads' HO166.out).2.1); rintro e w20 ⟨v174, rfl, ho0, hb⟩; have n0_ := Aside0.mk (Kd.R_below (rl HO166) hb); have n1_ := Aside0.mk (Kd.R_elder' (rl HO171) (Kd.R_base ho0) hb); have n2_ := Aside0.mk (Kd.R_lower (Kd.R_new' ho0 (Kd.R_lt (rl HO171))) (below_size (bl HB))); have n3_ := Aside0.mk (blk_below (g := gb162) (o := .cells #[.int .i64 a0_0, .slice A0_1 l0_1.length c0_1] 24 (0, 0)) (bk BK162) hb); have n4_ := Aside0.mk (blk_below (g := gb167) (o := .cells #[.int .i64 t163, .slice Ao17 t164.length co17] 24 (0, 0)) (bk BK167) hb); have n5_ := Aside0.mk (below_step (bl HB) hb); clear HO166; clear HO171; clear BK162; clear BK167; clear HB; have HO166 := n0_; have HO171 := n1_; have HO175 := n2_; have BK162 := n3_; have BK167 := n4_; have HB := n5_; clear n0_ n1_ n2_ n3_ n4_ n5_; (try clear hb); (try clear hb2); (try clear hk); (try clear hi); (try clear ho0); have hcz21_0 : w20.cell? ⟨gb167, 0, none⟩ = some (.int .i64 t163) := (blk_cell BK167.out 0).trans rfl; have hcz21_1 : w20.cell? ⟨gb167, 1, none⟩ = some (.slice Ao17 t164.length co17) := (blk_cell BK167.out 1).trans rfl; have hfz21_0 := blk_frozen BK167.out 0; have hfz21_1 := blk_frozen BK167.out 1) | (go_at_call 26; (with_reducible refine (gamplaw04_chordal.calls k t163 _ _ t164 t176 _ ?side1 ?side2 A5.out).mono ?_); (case side1 => exact cl ((Kd.R_reads' HO166.out).2.2)); (case side2 => exact (Kd.R_reads' HO166.out).2.1); rintro e w22 ⟨rfl, hb⟩; have n0_ := Aside0.mk (Kd.R_below (rl HO166) hb); have n1_ := Aside0.mk (Kd.R_below (rl HO171) hb); have n2_ := Aside0.mk (Kd.R_below (rl HO175) hb); have n3_ := Aside0.mk (blk_below (g := gb162) (o := .cells #[.int .i64 a0_0, .slice A0_1 l0_1.length c0_1] 24 (0, 0)) (bk BK162) hb); have n4_ := Aside0.mk (blk_below (g := gb167) (o := .cells #[.int .i64 t163, .slice Ao17 t164.length co17] 24 (0, 0)) (bk BK167) hb); have n5_ := Aside0.mk (below_step (bl HB) hb); clear HO166; clear HO171; clear HO175; clear BK162; clear BK167; clear HB; have HO166 := n0_; have HO171 := n1_; have HO175 := n2_; have BK162 := n3_; have BK167 := n4_; have HB := n5_; clear n0_ n1_ n2_ n3_ n4_ n5_; (try clear hb); (try clear hb2); (try clear hk); (try clear hi); obtain ⟨Ao23, co23, eo23⟩ := Kd.R_slice HO171.out; subst eo23; obtain ⟨Ao24, co24, eo24⟩ := Kd.R_slice HO175.out; subst eo24) | (go_at_call 18; (with_reducible refine (Rx.gamplaw04_lives.calls k  t177 _ A10.out).mono ?_); rintro e w25 ⟨rfl, hb⟩; have n0_ := Aside0.mk (Kd.R_below (rl HO166) hb); have n1_ := Aside0.mk (Kd.R_below (rl HO171) hb); have n2_ := Aside0.mk (Kd.R_below (rl HO175) hb); have n3_ := Aside0.mk (blk_below (g := gb162) (o := .cells #[.int .i64 a0_0, .slice A0_1 l0_1.length c0_1] 24 (0, 0)) (bk BK162) hb); have n4_ := Aside0.mk (blk_below (g := gb167) (o := .cells #[.int .i64 t163, .slice Ao17 t164.length co17] 24 (0, 0)) (bk BK167) hb); have n5_ := Aside0.mk (below_step (bl HB) hb); clear HO166; clear HO171; clear HO175; clear BK162; clear BK167; clear HB; have HO166 := n0_; have HO171 := n1_; have HO175 := n2_; have BK162 := n3_; have BK167 := n4_; have HB := n5_; clear n0_ n1_ n2_ n3_ n4_ n5_; (try clear hb); (try clear hb2); (try clear hk); (try clear hi)))
     repeat (go_quiet (first | ((with_reducible refine gate_dst (N := 1) rfl ?_); (try (refine gate_guard (by rfl) ?_; dsimp only)); refine box_event ?hg (N := 1) ?hd (cs := #[.int .i64 a0_0, .slice A0_1 l0_1.length c0_1]) (t := 24) ?hr ?_; (case hd => rfl); (case hg => rfl); (case hr => first | (go_simp; done) | (go_simp; rfl)); intro gb162 hg w11 hbox hb; have n0_ := Aside0.mk (below_step (bl HB) hb); have n1_ := Aside0.mk (hbox); have n2_ := Aside0.mk ((by rw [hg]; exact (below_size (bl HB)) : w.heap.size ≤ gb162)); have n3_ := Aside0.mk ((by rw [hg]; exact (below_size (bl HB)) : w.heap.size ≤ gb162)); clear HB; have HB := n0_; have BK162 := n1_; have GW162 := n2_; have GE162 := n3_; clear n0_ n1_ n2_ n3_; clear hb hbox hg; have hcz12_0 : w11.cell? ⟨gb162, 0, none⟩ = some (.int .i64 a0_0) := (blk_cell BK162.out 0).trans rfl; have hcz12_1 : w11.cell? ⟨gb162, 1, none⟩ = some (.slice A0_1 l0_1.length c0_1) := (blk_cell BK162.out 1).trans rfl; have hfz12_0 := blk_frozen BK162.out 0; have hfz12_1 := blk_frozen BK162.out 1) | (go_at_call 15; (with_reducible refine (Rx.gamplaw04_few.calls a0_0 _ _ l0_1 t163 t164 _ ?side1 ?side2 A2.out).mono ?_); (case side1 => exact cl (Kd.C_below HR0_1.out HB.out)); (case side2 => exact HC0_1.out); rintro e w13 ⟨v165, rfl, ho0, hb⟩; have n0_ := Aside0.mk (Kd.R_lower ho0 (below_size (bl HB))); have n1_ := Aside0.mk (blk_below (g := gb162) (o := .cells #[.int .i64 a0_0, .slice A0_1 l0_1.length c0_1] 24 (0, 0)) (bk BK162) hb); have n2_ := Aside0.mk (below_step (bl HB) hb); clear BK162; clear HB; have HO166 := n0_; have BK162 := n1_; have HB := n2_; clear n0_ n1_ n2_; (try clear hb); (try clear hb2); (try clear hk); (try clear hi); (try clear ho0)) | ((with_reducible refine gate_dst (N := 3) rfl ?_); (try (refine gate_guard (by rfl) ?_; dsimp only)); refine box_event ?hg (N := 3) ?hd (cs := #[.int .i64 0, .slice none 0 0]) (t := 24) ?hr ?_; (case hd => rfl); (case hg => rfl); (case hr => first | (go_simp; done) | (go_simp; rfl)); intro gb167 hg w14 hbox hb; have n0_ := Aside0.mk (Kd.R_below (rl HO166) hb); have n1_ := Aside0.mk (blk_below (g := gb162) (o := .cells #[.int .i64 a0_0, .slice A0_1 l0_1.length c0_1] 24 (0, 0)) (bk BK162) hb); have n2_ := Aside0.mk (below_step (bl HB) hb); have n3_ := Aside0.mk (hbox); have n4_ := Aside0.mk ((by rw [hg]; exact (below_size (bl HB)) : w.heap.size ≤ gb167)); have n5_ := Aside0.mk ((by rw [hg]; exact (below_size (bl HB)) : w.heap.size ≤ gb167)); have n6_ := Aside0.mk ((by rw [hg]; exact Nat.ne_of_lt (blk_lt (g := gb162) (o := .cells #[.int .i64 a0_0, .slice A0_1 l0_1.length c0_1] 24 (0, 0)) (bk BK162)) : gb162 ≠ gb167)); have n7_ := Aside0.mk ((by rw [hg]; exact Nat.ne_of_gt (blk_lt (g := gb162) (o := .cells #[.int .i64 a0_0, .slice A0_1 l0_1.length c0_1] 24 (0, 0)) (bk BK162)) : gb167 ≠ gb162)); clear HO166; clear BK162; clear HB; have HO166 := n0_; have BK162 := n1_; have HB := n2_; have BK167 := n3_; have GW167 := n4_; have GE167 := n5_; have NB162_167 := n6_; have NB167_162 := n7_; clear n0_ n1_ n2_ n3_ n4_ n5_ n6_ n7_; clear hb hbox hg; have hnb15 := NB167_162.out; have hnc15 := NB162_167.out; have hcz16_0 : w14.cell? ⟨gb167, 0, none⟩ = some (.int .i64 0) := (blk_cell BK167.out 0).trans rfl; have hcz16_1 : w14.cell? ⟨gb167, 1, none⟩ = some (.slice none 0 0) := (blk_cell BK167.out 1).trans rfl; have hfz16_0 := blk_frozen BK167.out 0; have hfz16_1 := blk_frozen BK167.out 1; obtain ⟨Ao17, co17, eo17⟩ := Kd.R_slice HO166.out; subst eo17) | (go_at_call 24; (with_reducible refine (Rx.rib_Order.calls k t163 _ _ t164 t168 t169 _ ?side1 ?side2 A3.out).mono ?_); (case side1 => refine (Kd.R_reads' (e := 52) (base := w.heap.size) (ok := fun k_ => True) (n := t164.length) (c := co17) ?_).2.2; exact (by (with_reducible repeat (first | apply Kd.R_alloc | apply Kd.R_drewN | apply Kd.R_drew)); exact (Kd.R_mono (Kd.R_far (p := ⟨gb167, 1, none⟩) (Kd.R_far (p := ⟨gb167, 0, none⟩) (Kd.R_types HO166.out BK167.out (by decide)) (fun _ hk => hk.2) (.int .i64 t163)) (fun _ hk => hk.2) (.slice Ao17 t164.length co17)) (fun _ h_ => h_.1)))); (case side2 => exact (Kd.R_reads' HO166.out).2.1); rintro e w18 ⟨v170, rfl, ho0, hb⟩; have n0_ := Aside0.mk (Kd.R_below (by (with_reducible repeat (first | apply Kd.R_alloc | apply Kd.R_drewN | apply Kd.R_drew)); exact (Kd.R_mono (Kd.R_far (p := ⟨gb167, 1, none⟩) (Kd.R_far (p := ⟨gb167, 0, none⟩) (Kd.R_types HO166.out BK167.out (by decide)) (fun _ hk => hk.2) (.int .i64 t163)) (fun _ hk => hk.2) (.slice Ao17 t164.length co17)) (fun _ h_ => h_.1))) hb); have n1_ := Aside0.mk (Kd.R_lower ho0 (below_size (bl HB))); have n2_ := Aside0.mk (blk_below (g := gb162) (o := .cells #[.int .i64 a0_0, .slice A0_1 l0_1.length c0_1] 24 (0, 0)) (by (with_reducible repeat (first | refine blk_drewN ?_ _ | refine blk_drew ?_ | refine blk_alloc ?_ _)); refine blk_far ?_ NB162_167.out _; (with_reducible repeat (first | refine blk_drewN ?_ _ | refine blk_drew ?_ | refine blk_alloc ?_ _)); refine blk_far ?_ NB162_167.out _; (with_reducible repeat (first | refine blk_drewN ?_ _ | refine blk_drew ?_ | refine blk_alloc ?_ _)); exact BK162.out) hb); have n3_ := Aside0.mk (blk_below (g := gb167) (o := .cells #[.int .i64 t163, .slice Ao17 t164.length co17] 24 (0, 0)) (by (with_reducible repeat (first | refine blk_drewN ?_ _ | refine blk_drew ?_ | refine blk_alloc ?_ _)); refine blk_put (cs := #[.int .i64 t163, .slice none 0 0]) ?_ 1 _ rfl; (with_reducible repeat (first | refine blk_drewN ?_ _ | refine blk_drew ?_ | refine blk_alloc ?_ _)); refine blk_put (cs := #[.int .i64 0, .slice none 0 0]) ?_ 0 _ rfl; (with_reducible repeat (first | refine blk_drewN ?_ _ | refine blk_drew ?_ | refine blk_alloc ?_ _)); exact BK167.out) hb); have n4_ := Aside0.mk (below_step (bl HB) hb); clear HO166; clear BK162; clear BK167; clear HB; have HO166 := n0_; have HO171 := n1_; have BK162 := n2_; have BK167 := n3_; have HB := n4_; clear n0_ n1_ n2_ n3_ n4_; (try clear hb); (try clear hb2); (try clear hk); (try clear hi); (try clear ho0); have hcz19_0 : w18.cell? ⟨gb167, 0, none⟩ = some (.int .i64 t163) := (blk_cell BK167.out 0).trans rfl; have hcz19_1 : w18.cell? ⟨gb167, 1, none⟩ = some (.slice Ao17 t164.length co17) := (blk_cell BK167.out 1).trans rfl; have hfz19_0 := blk_frozen BK167.out 0; have hfz19_1 := blk_frozen BK167.out 1) | (go_at_call 25; (with_reducible refine (rib_Ring.calls k t163 _ _ t164 t172 t173 _ ?side1 ?side2 A4.out).mono ?_); (case side1 => exact cl ((Kd.R_reads' HO166.out).2.2)); (case side2 => exact (Kd.R_reads' HO166.out).2.1); rintro e w20 ⟨v174, rfl, ho0, hb⟩; have n0_ := Aside0.mk (Kd.R_below (rl HO166) hb); have n1_ := Aside0.mk (Kd.R_elder' (rl HO171) (Kd.R_base ho0) hb); have n2_ := Aside0.mk (Kd.R_lower (Kd.R_new' ho0 (Kd.R_lt (rl HO171))) (below_size (bl HB))); have n3_ := Aside0.mk (blk_below (g := gb162) (o := .cells #[.int .i64 a0_0, .slice A0_1 l0_1.length c0_1] 24 (0, 0)) (bk BK162) hb); have n4_ := Aside0.mk (blk_below (g := gb167) (o := .cells #[.int .i64 t163, .slice Ao17 t164.length co17] 24 (0, 0)) (bk BK167) hb); have n5_ := Aside0.mk (below_step (bl HB) hb); clear HO166; clear HO171; clear BK162; clear BK167; clear HB; have HO166 := n0_; have HO171 := n1_; have HO175 := n2_; have BK162 := n3_; have BK167 := n4_; have HB := n5_; clear n0_ n1_ n2_ n3_ n4_ n5_; (try clear hb); (try clear hb2); (try clear hk); (try clear hi); (try clear ho0); have hcz21_0 : w20.cell? ⟨gb167, 0, none⟩ = some (.int .i64 t163) := (blk_cell BK167.out 0).trans rfl; have hcz21_1 : w20.cell? ⟨gb167, 1, none⟩ = some (.slice Ao17 t164.length co17) := (blk_cell BK167.out 1).trans rfl; have hfz21_0 := blk_frozen BK167.out 0; have hfz21_1 := blk_frozen BK167.out 1) | (go_at_call 26; (with_reducible refine (gamplaw04_chordal.calls k t163 _ _ t164 t176 _ ?side1 ?side2 A5.out).mono ?_); (case side1 => exact cl ((Kd.R_reads' HO166.out).2.2)); (case side2 => exact (Kd.R_reads' HO166.out).2.1); rintro e w22 ⟨rfl, hb⟩; have n0_ := Aside0.mk (Kd.R_below (rl HO166) hb); have n1_ := Aside0.mk (Kd.R_below (rl HO171) hb); have n2_ := Aside0.mk (Kd.R_below (rl HO175) hb); have n3_ := Aside0.mk (blk_below (g := gb162) (o := .cells #[.int .i64 a0_0, .slice A0_1 l0_1.length c0_1] 24 (0, 0)) (bk BK162) hb); have n4_ := Aside0.mk (blk_below (g := gb167) (o := .cells #[.int .i64 t163, .slice Ao17 t164.length co17] 24 (0, 0)) (bk BK167) hb); have n5_ := Aside0.mk (below_step (bl HB) hb); clear HO166; clear HO171; clear HO175; clear BK162; clear BK167; clear HB; have HO166 := n0_; have HO171 := n1_; have HO175 := n2_; have BK162 := n3_; have BK167 := n4_; have HB := n5_; clear n0_ n1_ n2_ n3_ n4_ n5_; (try clear hb); (try clear hb2); (try clear hk); (try clear hi); obtain ⟨Ao23, co23, eo23⟩ := Kd.R_slice HO171.out; subst eo23; obtain ⟨Ao24, co24, eo24⟩ := Kd.R_slice HO175.out; subst eo24) | (go_at_call 18; (with_reducible refine (Rx.gamplaw04_lives.calls k  t177 _ A10.out).mono ?_); rintro e w25 ⟨rfl, hb⟩; have n0_ := Aside0.mk (Kd.R_below (rl HO166) hb); have n1_ := Aside0.mk (Kd.R_below (rl HO171) hb); have n2_ := Aside0.mk (Kd.R_below (rl HO175) hb); have n3_ := Aside0.mk (blk_below (g := gb162) (o := .cells #[.int .i64 a0_0, .slice A0_1 l0_1.length c0_1] 24 (0, 0)) (bk BK162) hb); have n4_ := Aside0.mk (blk_below (g := gb167) (o := .cells #[.int .i64 t163, .slice Ao17 t164.length co17] 24 (0, 0)) (bk BK167) hb); have n5_ := Aside0.mk (below_step (bl HB) hb); clear HO166; clear HO171; clear HO175; clear BK162; clear BK167; clear HB; have HO166 := n0_; have HO171 := n1_; have HO175 := n2_; have BK162 := n3_; have BK167 := n4_; have HB := n5_; clear n0_ n1_ n2_ n3_ n4_ n5_; (try clear hb); (try clear hb2); (try clear hk); (try clear hi))); try go_wp2_with (first | ((with_reducible refine gate_dst (N := 1) rfl ?_); (try (refine gate_guard (by rfl) ?_; dsimp only)); refine box_event ?hg (N := 1) ?hd (cs := #[.int .i64 a0_0, .slice A0_1 l0_1.length c0_1]) (t := 24) ?hr ?_; (case hd => rfl); (case hg => rfl); (case hr => first | (go_simp; done) | (go_simp; rfl)); intro gb162 hg w11 hbox hb; have n0_ := Aside0.mk (below_step (bl HB) hb); have n1_ := Aside0.mk (hbox); have n2_ := Aside0.mk ((by rw [hg]; exact (below_size (bl HB)) : w.heap.size ≤ gb162)); have n3_ := Aside0.mk ((by rw [hg]; exact (below_size (bl HB)) : w.heap.size ≤ gb162)); clear HB; have HB := n0_; have BK162 := n1_; have GW162 := n2_; have GE162 := n3_; clear n0_ n1_ n2_ n3_; clear hb hbox hg; have hcz12_0 : w11.cell? ⟨gb162, 0, none⟩ = some (.int .i64 a0_0) := (blk_cell BK162.out 0).trans rfl; have hcz12_1 : w11.cell? ⟨gb162, 1, none⟩ = some (.slice A0_1 l0_1.length c0_1) := (blk_cell BK162.out 1).trans rfl; have hfz12_0 := blk_frozen BK162.out 0; have hfz12_1 := blk_frozen BK162.out 1) | (go_at_call 15; (with_reducible refine (Rx.gamplaw04_few.calls a0_0 _ _ l0_1 t163 t164 _ ?side1 ?side2 A2.out).mono ?_); (case side1 => exact cl (Kd.C_below HR0_1.out HB.out)); (case side2 => exact HC0_1.out); rintro e w13 ⟨v165, rfl, ho0, hb⟩; have n0_ := Aside0.mk (Kd.R_lower ho0 (below_size (bl HB))); have n1_ := Aside0.mk (blk_below (g := gb162) (o := .cells #[.int .i64 a0_0, .slice A0_1 l0_1.length c0_1] 24 (0, 0)) (bk BK162) hb); have n2_ := Aside0.mk (below_step (bl HB) hb); clear BK162; clear HB; have HO166 := n0_; have BK162 := n1_; have HB := n2_; clear n0_ n1_ n2_; (try clear hb); (try clear hb2); (try clear hk); (try clear hi); (try clear ho0)) | ((with_reducible refine gate_dst (N := 3) rfl ?_); (try (refine gate_guard (by rfl) ?_; dsimp only)); refine box_event ?hg (N := 3) ?hd (cs := #[.int .i64 0, .slice none 0 0]) (t := 24) ?hr ?_; (case hd => rfl); (case hg => rfl); (case hr => first | (go_simp; done) | (go_simp; rfl)); intro gb167 hg w14 hbox hb; have n0_ := Aside0.mk (Kd.R_below (rl HO166) hb); have n1_ := Aside0.mk (blk_below (g := gb162) (o := .cells #[.int .i64 a0_0, .slice A0_1 l0_1.length c0_1] 24 (0, 0)) (bk BK162) hb); have n2_ := Aside0.mk (below_step (bl HB) hb); have n3_ := Aside0.mk (hbox); have n4_ := Aside0.mk ((by rw [hg]; exact (below_size (bl HB)) : w.heap.size ≤ gb167)); have n5_ := Aside0.mk ((by rw [hg]; exact (below_size (bl HB)) : w.heap.size ≤ gb167)); have n6_ := Aside0.mk ((by rw [hg]; exact Nat.ne_of_lt (blk_lt (g := gb162) (o := .cells #[.int .i64 a0_0, .slice A0_1 l0_1.length c0_1] 24 (0, 0)) (bk BK162)) : gb162 ≠ gb167)); have n7_ := Aside0.mk ((by rw [hg]; exact Nat.ne_of_gt (blk_lt (g := gb162) (o := .cells #[.int .i64 a0_0, .slice A0_1 l0_1.length c0_1] 24 (0, 0)) (bk BK162)) : gb167 ≠ gb162)); clear HO166; clear BK162; clear HB; have HO166 := n0_; have BK162 := n1_; have HB := n2_; have BK167 := n3_; have GW167 := n4_; have GE167 := n5_; have NB162_167 := n6_; have NB167_162 := n7_; clear n0_ n1_ n2_ n3_ n4_ n5_ n6_ n7_; clear hb hbox hg; have hnb15 := NB167_162.out; have hnc15 := NB162_167.out; have hcz16_0 : w14.cell? ⟨gb167, 0, none⟩ = some (.int .i64 0) := (blk_cell BK167.out 0).trans rfl; have hcz16_1 : w14.cell? ⟨gb167, 1, none⟩ = some (.slice none 0 0) := (blk_cell BK167.out 1).trans rfl; have hfz16_0 := blk_frozen BK167.out 0; have hfz16_1 := blk_frozen BK167.out 1; obtain ⟨Ao17, co17, eo17⟩ := Kd.R_slice HO166.out; subst eo17) | (go_at_call 24; (with_reducible refine (Rx.rib_Order.calls k t163 _ _ t164 t168 t169 _ ?side1 ?side2 A3.out).mono ?_); (case side1 => refine (Kd.R_reads' (e := 52) (base := w.heap.size) (ok := fun k_ => True) (n := t164.length) (c := co17) ?_).2.2; exact (by (with_reducible repeat (first | apply Kd.R_alloc | apply Kd.R_drewN | apply Kd.R_drew)); exact (Kd.R_mono (Kd.R_far (p := ⟨gb167, 1, none⟩) (Kd.R_far (p := ⟨gb167, 0, none⟩) (Kd.R_types HO166.out BK167.out (by decide)) (fun _ hk => hk.2) (.int .i64 t163)) (fun _ hk => hk.2) (.slice Ao17 t164.length co17)) (fun _ h_ => h_.1)))); (case side2 => exact (Kd.R_reads' HO166.out).2.1); rintro e w18 ⟨v170, rfl, ho0, hb⟩; have n0_ := Aside0.mk (Kd.R_below (by (with_reducible repeat (first | apply Kd.R_alloc | apply Kd.R_drewN | apply Kd.R_drew)); exact (Kd.R_mono (Kd.R_far (p := ⟨gb167, 1, none⟩) (Kd.R_far (p := ⟨gb167, 0, none⟩) (Kd.R_types HO166.out BK167.out (by decide)) (fun _ hk => hk.2) (.int .i64 t163)) (fun _ hk => hk.2) (.slice Ao17 t164.length co17)) (fun _ h_ => h_.1))) hb); have n1_ := Aside0.mk (Kd.R_lower ho0 (below_size (bl HB))); have n2_ := Aside0.mk (blk_below (g := gb162) (o := .cells #[.int .i64 a0_0, .slice A0_1 l0_1.length c0_1] 24 (0, 0)) (by (with_reducible repeat (first | refine blk_drewN ?_ _ | refine blk_drew ?_ | refine blk_alloc ?_ _)); refine blk_far ?_ NB162_167.out _; (with_reducible repeat (first | refine blk_drewN ?_ _ | refine blk_drew ?_ | refine blk_alloc ?_ _)); refine blk_far ?_ NB162_167.out _; (with_reducible repeat (first | refine blk_drewN ?_ _ | refine blk_drew ?_ | refine blk_alloc ?_ _)); exact BK162.out) hb); have n3_ := Aside0.mk (blk_below (g := gb167) (o := .cells #[.int .i64 t163, .slice Ao17 t164.length co17] 24 (0, 0)) (by (with_reducible repeat (first | refine blk_drewN ?_ _ | refine blk_drew ?_ | refine blk_alloc ?_ _)); refine blk_put (cs := #[.int .i64 t163, .slice none 0 0]) ?_ 1 _ rfl; (with_reducible repeat (first | refine blk_drewN ?_ _ | refine blk_drew ?_ | refine blk_alloc ?_ _)); refine blk_put (cs := #[.int .i64 0, .slice none 0 0]) ?_ 0 _ rfl; (with_reducible repeat (first | refine blk_drewN ?_ _ | refine blk_drew ?_ | refine blk_alloc ?_ _)); exact BK167.out) hb); have n4_ := Aside0.mk (below_step (bl HB) hb); clear HO166; clear BK162; clear BK167; clear HB; have HO166 := n0_; have HO171 := n1_; have BK162 := n2_; have BK167 := n3_; have HB := n4_; clear n0_ n1_ n2_ n3_ n4_; (try clear hb); (try clear hb2); (try clear hk); (try clear hi); (try clear ho0); have hcz19_0 : w18.cell? ⟨gb167, 0, none⟩ = some (.int .i64 t163) := (blk_cell BK167.out 0).trans rfl; have hcz19_1 : w18.cell? ⟨gb167, 1, none⟩ = some (.slice Ao17 t164.length co17) := (blk_cell BK167.out 1).trans rfl; have hfz19_0 := blk_frozen BK167.out 0; have hfz19_1 := blk_frozen BK167.out 1) | (go_at_call 25; (with_reducible refine (rib_Ring.calls k t163 _ _ t164 t172 t173 _ ?side1 ?side2 A4.out).mono ?_); (case side1 => exact cl ((Kd.R_reads' HO166.out).2.2)); (case side2 => exact (Kd.R_reads' HO166.out).2.1); rintro e w20 ⟨v174, rfl, ho0, hb⟩; have n0_ := Aside0.mk (Kd.R_below (rl HO166) hb); have n1_ := Aside0.mk (Kd.R_elder' (rl HO171) (Kd.R_base ho0) hb); have n2_ := Aside0.mk (Kd.R_lower (Kd.R_new' ho0 (Kd.R_lt (rl HO171))) (below_size (bl HB))); have n3_ := Aside0.mk (blk_below (g := gb162) (o := .cells #[.int .i64 a0_0, .slice A0_1 l0_1.length c0_1] 24 (0, 0)) (bk BK162) hb); have n4_ := Aside0.mk (blk_below (g := gb167) (o := .cells #[.int .i64 t163, .slice Ao17 t164.length co17] 24 (0, 0)) (bk BK167) hb); have n5_ := Aside0.mk (below_step (bl HB) hb); clear HO166; clear HO171; clear BK162; clear BK167; clear HB; have HO166 := n0_; have HO171 := n1_; have HO175 := n2_; have BK162 := n3_; have BK167 := n4_; have HB := n5_; clear n0_ n1_ n2_ n3_ n4_ n5_; (try clear hb); (try clear hb2); (try clear hk); (try clear hi); (try clear ho0); have hcz21_0 : w20.cell? ⟨gb167, 0, none⟩ = some (.int .i64 t163) := (blk_cell BK167.out 0).trans rfl; have hcz21_1 : w20.cell? ⟨gb167, 1, none⟩ = some (.slice Ao17 t164.length co17) := (blk_cell BK167.out 1).trans rfl; have hfz21_0 := blk_frozen BK167.out 0; have hfz21_1 := blk_frozen BK167.out 1) | (go_at_call 26; (with_reducible refine (gamplaw04_chordal.calls k t163 _ _ t164 t176 _ ?side1 ?side2 A5.out).mono ?_); (case side1 => exact cl ((Kd.R_reads' HO166.out).2.2)); (case side2 => exact (Kd.R_reads' HO166.out).2.1); rintro e w22 ⟨rfl, hb⟩; have n0_ := Aside0.mk (Kd.R_below (rl HO166) hb); have n1_ := Aside0.mk (Kd.R_below (rl HO171) hb); have n2_ := Aside0.mk (Kd.R_below (rl HO175) hb); have n3_ := Aside0.mk (blk_below (g := gb162) (o := .cells #[.int .i64 a0_0, .slice A0_1 l0_1.length c0_1] 24 (0, 0)) (bk BK162) hb); have n4_ := Aside0.mk (blk_below (g := gb167) (o := .cells #[.int .i64 t163, .slice Ao17 t164.length co17] 24 (0, 0)) (bk BK167) hb); have n5_ := Aside0.mk (below_step (bl HB) hb); clear HO166; clear HO171; clear HO175; clear BK162; clear BK167; clear HB; have HO166 := n0_; have HO171 := n1_; have HO175 := n2_; have BK162 := n3_; have BK167 := n4_; have HB := n5_; clear n0_ n1_ n2_ n3_ n4_ n5_; (try clear hb); (try clear hb2); (try clear hk); (try clear hi); obtain ⟨Ao23, co23, eo23⟩ := Kd.R_slice HO171.out; subst eo23; obtain ⟨Ao24, co24, eo24⟩ := Kd.R_slice HO175.out; subst eo24) | (go_at_call 18; (with_reducible refine (Rx.gamplaw04_lives.calls k  t177 _ A10.out).mono ?_); rintro e w25 ⟨rfl, hb⟩; have n0_ := Aside0.mk (Kd.R_below (rl HO166) hb); have n1_ := Aside0.mk (Kd.R_below (rl HO171) hb); have n2_ := Aside0.mk (Kd.R_below (rl HO175) hb); have n3_ := Aside0.mk (blk_below (g := gb162) (o := .cells #[.int .i64 a0_0, .slice A0_1 l0_1.length c0_1] 24 (0, 0)) (bk BK162) hb); have n4_ := Aside0.mk (blk_below (g := gb167) (o := .cells #[.int .i64 t163, .slice Ao17 t164.length co17] 24 (0, 0)) (bk BK167) hb); have n5_ := Aside0.mk (below_step (bl HB) hb); clear HO166; clear HO171; clear HO175; clear BK162; clear BK167; clear HB; have HO166 := n0_; have HO171 := n1_; have HO175 := n2_; have BK162 := n3_; have BK167 := n4_; have HB := n5_; clear n0_ n1_ n2_ n3_ n4_ n5_; (try clear hb); (try clear hb2); (try clear hk); (try clear hi))))
     go_ret
     exact ⟨by first | rfl | (simp [errW_none, errW_some] <;> rfl) | (simp [*, errW_none, errW_some] <;> rfl), by repeat (first | (with_reducible first | exact HB.out | apply below_alloc | apply pw_below_drewN | apply below_drew1 | refine below_set ?_ GE162.out | refine below_set ?_ GE167.out) | exact HB.out)⟩
    ·rw [if_neg c9] at H
     have c9b0 : (t173 == 1) = false := beq_eq_false_iff_ne.mpr c9
     have c9b1 : (t173 != 1) = true := bne_iff_ne.mpr c9
     rw [hrt] at H
     cases H
   ·rw [if_neg c8] at H
    have c8b0 : (t169 == 1) = false := beq_eq_false_iff_ne.mpr c8
    have c8b1 : (t169 != 1) = true := bne_iff_ne.mpr c8
    rw [hrt] at H
    cases H
  ·rw [if_neg c7] at H
   have c7b0 : ((wrap64 ((t168.length : Int) + (t172.length : Int))) == 0) = false := beq_eq_false_iff_ne.mpr c7
   have c7b1 : ((wrap64 ((t168.length : Int) + (t172.length : Int))) != 0) = true := bne_iff_ne.mpr c7
   rw [hrt] at H
   cases H
 ·rw [if_neg c6] at H
  have c6b0 : (t176 == 1) = false := beq_eq_false_iff_ne.mpr c6
  have c6b1 : (t176 != 1) = true := bne_iff_ne.mpr c6
  by_cases c68 : t176 = 0
  ·rw [if_pos c68] at H
   have c68b0 : (t176 == 0) = true := beq_iff_eq.mpr c68
   have c68b1 : (t176 != 0) = false := bne_eq_false_iff_eq.mpr c68
   clear c68
   by_cases c69 : t169 = 0
   ·rw [if_pos c69] at H
    have c69b0 : (t169 == 0) = true := beq_iff_eq.mpr c69
    have c69b1 : (t169 != 0) = false := bne_eq_false_iff_eq.mpr c69
    clear c69
    replace H := Option.bind_eq_some_iff.mp H
    obtain ⟨t178, A700, H⟩ := H
    replace H : (if t178 = true then ((Re.gampref04_Eliminates.f k t164 t168).bind fun t179 => (if t179 = true then (if (t172.length : Int) = 0 then (if t173 = 5 then ((Rx.gamplaw04_lives.f k).bind fun t180 => (some t180)) else (some false)) else (some false)) else (some false))) else (some false)) = some r := H
    have A70 := Aside0.mk A700
    clear A700
    by_cases c71 : t178 = true
    ·subst c71
     have H1 : ((Re.gampref04_Eliminates.f k t164 t168).bind fun t179 => (if t179 = true then (if (t172.length : Int) = 0 then (if t173 = 5 then ((Rx.gamplaw04_lives.f k).bind fun t180 => (some t180)) else (some false)) else (some false)) else (some false))) = some r := by rw [if_pos rfl] at H; exact H
     clear H
     have H := H1
     clear H1
     replace H := Option.bind_eq_some_iff.mp H
     obtain ⟨t179, A720, H⟩ := H
     replace H : (if t179 = true then (if (t172.length : Int) = 0 then (if t173 = 5 then ((Rx.gamplaw04_lives.f k).bind fun t180 => (some t180)) else (some false)) else (some false)) else (some false)) = some r := H
     have A72 := Aside0.mk A720
     clear A720
     by_cases c73 : t179 = true
     ·subst c73
      have H1 : (if (t172.length : Int) = 0 then (if t173 = 5 then ((Rx.gamplaw04_lives.f k).bind fun t180 => (some t180)) else (some false)) else (some false)) = some r := by rw [if_pos rfl] at H; exact H
      clear H
      have H := H1
      clear H1
      by_cases c74 : (t172.length : Int) = 0
      ·rw [if_pos c74] at H
       have c74b0 : ((t172.length : Int) == 0) = true := beq_iff_eq.mpr c74
       have c74b1 : ((t172.length : Int) != 0) = false := bne_eq_false_iff_eq.mpr c74
       clear c74
       by_cases c75 : t173 = 5
       ·rw [if_pos c75] at H
        have c75b0 : (t173 == 5) = true := beq_iff_eq.mpr c75
        have c75b1 : (t173 != 5) = false := bne_eq_false_iff_eq.mpr c75
        clear c75
        replace H := Option.bind_eq_some_iff.mp H
        obtain ⟨t180, A760, H⟩ := H
        replace H : (some t180) = some r := H
        have A76 := Aside0.mk A760
        clear A760
        obtain rfl := Option.some.inj H
        go_enter Try.func5, Try.ntmps5
        go_wp2_with (first | ((with_reducible refine gate_dst (N := 1) rfl ?_); (try (refine gate_guard (by rfl) ?_; dsimp only)); refine box_event ?hg (N := 1) ?hd (cs := #[.int .i64 a0_0, .slice A0_1 l0_1.length c0_1]) (t := 24) ?hr ?_; (case hd => rfl); (case hg => rfl); (case hr => first | (go_simp; done) | (go_simp; rfl)); intro gb162 hg w77 hbox hb; have n0_ := Aside0.mk (below_step (bl HB) hb); have n1_ := Aside0.mk (hbox); have n2_ := Aside0.mk ((by rw [hg]; exact (below_size (bl HB)) : w.heap.size ≤ gb162)); have n3_ := Aside0.mk ((by rw [hg]; exact (below_size (bl HB)) : w.heap.size ≤ gb162)); clear HB; have HB := n0_; have BK162 := n1_; have GW162 := n2_; have GE162 := n3_; clear n0_ n1_ n2_ n3_; clear hb hbox hg; have hcz78_0 : w77.cell? ⟨gb162, 0, none⟩ = some (.int .i64 a0_0) := (blk_cell BK162.out 0).trans rfl; have hcz78_1 : w77.cell? ⟨gb162, 1, none⟩ = some (.slice A0_1 l0_1.length c0_1) := (blk_cell BK162.out 1).trans rfl; have hfz78_0 := blk_frozen BK162.out 0; have hfz78_1 := blk_frozen BK162.out 1) | (go_at_call 15; (with_reducible refine (Rx.gamplaw04_few.calls a0_0 _ _ l0_1 t163 t164 _ ?side1 ?side2 A2.out).mono ?_); (case side1 => exact cl (Kd.C_below HR0_1.out HB.out)); (case side2 => exact HC0_1.out); rintro e w79 ⟨v165, rfl, ho0, hb⟩; have n0_ := Aside0.mk (Kd.R_lower ho0 (below_size (bl HB))); have n1_ := Aside0.mk (blk_below (g := gb162) (o := .cells #[.int .i64 a0_0, .slice A0_1 l0_1.length c0_1] 24 (0, 0)) (bk BK162) hb); have n2_ := Aside0.mk (below_step (bl HB) hb); clear BK162; clear HB; have HO166 := n0_; have BK162 := n1_; have HB := n2_; clear n0_ n1_ n2_; (try clear hb); (try clear hb2); (try clear hk); (try clear hi); (try clear ho0)) | ((with_reducible refine gate_dst (N := 3) rfl ?_); (try (refine gate_guard (by rfl) ?_; dsimp only)); refine box_event ?hg (N := 3) ?hd (cs := #[.int .i64 0, .slice none 0 0]) (t := 24) ?hr ?_; (case hd => rfl); (case hg => rfl); (case hr => first | (go_simp; done) | (go_simp; rfl)); intro gb167 hg w80 hbox hb; have n0_ := Aside0.mk (Kd.R_below (rl HO166) hb); have n1_ := Aside0.mk (blk_below (g := gb162) (o := .cells #[.int .i64 a0_0, .slice A0_1 l0_1.length c0_1] 24 (0, 0)) (bk BK162) hb); have n2_ := Aside0.mk (below_step (bl HB) hb); have n3_ := Aside0.mk (hbox); have n4_ := Aside0.mk ((by rw [hg]; exact (below_size (bl HB)) : w.heap.size ≤ gb167)); have n5_ := Aside0.mk ((by rw [hg]; exact (below_size (bl HB)) : w.heap.size ≤ gb167)); have n6_ := Aside0.mk ((by rw [hg]; exact Nat.ne_of_lt (blk_lt (g := gb162) (o := .cells #[.int .i64 a0_0, .slice A0_1 l0_1.length c0_1] 24 (0, 0)) (bk BK162)) : gb162 ≠ gb167)); have n7_ := Aside0.mk ((by rw [hg]; exact Nat.ne_of_gt (blk_lt (g := gb162) (o := .cells #[.int .i64 a0_0, .slice A0_1 l0_1.length c0_1] 24 (0, 0)) (bk BK162)) : gb167 ≠ gb162)); clear HO166; clear BK162; clear HB; have HO166 := n0_; have BK162 := n1_; have HB := n2_; have BK167 := n3_; have GW167 := n4_; have GE167 := n5_; have NB162_167 := n6_; have NB167_162 := n7_; clear n0_ n1_ n2_ n3_ n4_ n5_ n6_ n7_; clear hb hbox hg; have hnb81 := NB167_162.out; have hnc81 := NB162_167.out; have hcz82_0 : w80.cell? ⟨gb167, 0, none⟩ = some (.int .i64 0) := (blk_cell BK167.out 0).trans rfl; have hcz82_1 : w80.cell? ⟨gb167, 1, none⟩ = some (.slice none 0 0) := (blk_cell BK167.out 1).trans rfl; have hfz82_0 := blk_frozen BK167.out 0; have hfz82_1 := blk_frozen BK167.out 1; obtain ⟨Ao83, co83, eo83⟩ := Kd.R_slice HO166.out; subst eo83) | (go_at_call 24; (with_reducible refine (Rx.rib_Order.calls k t163 _ _ t164 t168 t169 _ ?side1 ?side2 A3.out).mono ?_); (case side1 => refine (Kd.R_reads' (e := 52) (base := w.heap.size) (ok := fun k_ => True) (n := t164.length) (c := co83) ?_).2.2; exact (by (with_reducible repeat (first | apply Kd.R_alloc | apply Kd.R_drewN | apply Kd.R_drew)); exact (Kd.R_mono (Kd.R_far (p := ⟨gb167, 1, none⟩) (Kd.R_far (p := ⟨gb167, 0, none⟩) (Kd.R_types HO166.out BK167.out (by decide)) (fun _ hk => hk.2) (.int .i64 t163)) (fun _ hk => hk.2) (.slice Ao83 t164.length co83)) (fun _ h_ => h_.1)))); (case side2 => exact (Kd.R_reads' HO166.out).2.1); rintro e w84 ⟨v170, rfl, ho0, hb⟩; have n0_ := Aside0.mk (Kd.R_below (by (with_reducible repeat (first | apply Kd.R_alloc | apply Kd.R_drewN | apply Kd.R_drew)); exact (Kd.R_mono (Kd.R_far (p := ⟨gb167, 1, none⟩) (Kd.R_far (p := ⟨gb167, 0, none⟩) (Kd.R_types HO166.out BK167.out (by decide)) (fun _ hk => hk.2) (.int .i64 t163)) (fun _ hk => hk.2) (.slice Ao83 t164.length co83)) (fun _ h_ => h_.1))) hb); have n1_ := Aside0.mk (Kd.R_lower ho0 (below_size (bl HB))); have n2_ := Aside0.mk (blk_below (g := gb162) (o := .cells #[.int .i64 a0_0, .slice A0_1 l0_1.length c0_1] 24 (0, 0)) (by (with_reducible repeat (first | refine blk_drewN ?_ _ | refine blk_drew ?_ | refine blk_alloc ?_ _)); refine blk_far ?_ NB162_167.out _; (with_reducible repeat (first | refine blk_drewN ?_ _ | refine blk_drew ?_ | refine blk_alloc ?_ _)); refine blk_far ?_ NB162_167.out _; (with_reducible repeat (first | refine blk_drewN ?_ _ | refine blk_drew ?_ | refine blk_alloc ?_ _)); exact BK162.out) hb); have n3_ := Aside0.mk (blk_below (g := gb167) (o := .cells #[.int .i64 t163, .slice Ao83 t164.length co83] 24 (0, 0)) (by (with_reducible repeat (first | refine blk_drewN ?_ _ | refine blk_drew ?_ | refine blk_alloc ?_ _)); refine blk_put (cs := #[.int .i64 t163, .slice none 0 0]) ?_ 1 _ rfl; (with_reducible repeat (first | refine blk_drewN ?_ _ | refine blk_drew ?_ | refine blk_alloc ?_ _)); refine blk_put (cs := #[.int .i64 0, .slice none 0 0]) ?_ 0 _ rfl; (with_reducible repeat (first | refine blk_drewN ?_ _ | refine blk_drew ?_ | refine blk_alloc ?_ _)); exact BK167.out) hb); have n4_ := Aside0.mk (below_step (bl HB) hb); clear HO166; clear BK162; clear BK167; clear HB; have HO166 := n0_; have HO171 := n1_; have BK162 := n2_; have BK167 := n3_; have HB := n4_; clear n0_ n1_ n2_ n3_ n4_; (try clear hb); (try clear hb2); (try clear hk); (try clear hi); (try clear ho0); have hcz85_0 : w84.cell? ⟨gb167, 0, none⟩ = some (.int .i64 t163) := (blk_cell BK167.out 0).trans rfl; have hcz85_1 : w84.cell? ⟨gb167, 1, none⟩ = some (.slice Ao83 t164.length co83) := (blk_cell BK167.out 1).trans rfl; have hfz85_0 := blk_frozen BK167.out 0; have hfz85_1 := blk_frozen BK167.out 1) | (go_at_call 25; (with_reducible refine (rib_Ring.calls k t163 _ _ t164 t172 t173 _ ?side1 ?side2 A4.out).mono ?_); (case side1 => exact cl ((Kd.R_reads' HO166.out).2.2)); (case side2 => exact (Kd.R_reads' HO166.out).2.1); rintro e w86 ⟨v174, rfl, ho0, hb⟩; have n0_ := Aside0.mk (Kd.R_below (rl HO166) hb); have n1_ := Aside0.mk (Kd.R_elder' (rl HO171) (Kd.R_base ho0) hb); have n2_ := Aside0.mk (Kd.R_lower (Kd.R_new' ho0 (Kd.R_lt (rl HO171))) (below_size (bl HB))); have n3_ := Aside0.mk (blk_below (g := gb162) (o := .cells #[.int .i64 a0_0, .slice A0_1 l0_1.length c0_1] 24 (0, 0)) (bk BK162) hb); have n4_ := Aside0.mk (blk_below (g := gb167) (o := .cells #[.int .i64 t163, .slice Ao83 t164.length co83] 24 (0, 0)) (bk BK167) hb); have n5_ := Aside0.mk (below_step (bl HB) hb); clear HO166; clear HO171; clear BK162; clear BK167; clear HB; have HO166 := n0_; have HO171 := n1_; have HO175 := n2_; have BK162 := n3_; have BK167 := n4_; have HB := n5_; clear n0_ n1_ n2_ n3_ n4_ n5_; (try clear hb); (try clear hb2); (try clear hk); (try clear hi); (try clear ho0); have hcz87_0 : w86.cell? ⟨gb167, 0, none⟩ = some (.int .i64 t163) := (blk_cell BK167.out 0).trans rfl; have hcz87_1 : w86.cell? ⟨gb167, 1, none⟩ = some (.slice Ao83 t164.length co83) := (blk_cell BK167.out 1).trans rfl; have hfz87_0 := blk_frozen BK167.out 0; have hfz87_1 := blk_frozen BK167.out 1) | (go_at_call 26; (with_reducible refine (gamplaw04_chordal.calls k t163 _ _ t164 t176 _ ?side1 ?side2 A5.out).mono ?_); (case side1 => exact cl ((Kd.R_reads' HO166.out).2.2)); (case side2 => exact (Kd.R_reads' HO166.out).2.1); rintro e w88 ⟨rfl, hb⟩; have n0_ := Aside0.mk (Kd.R_below (rl HO166) hb); have n1_ := Aside0.mk (Kd.R_below (rl HO171) hb); have n2_ := Aside0.mk (Kd.R_below (rl HO175) hb); have n3_ := Aside0.mk (blk_below (g := gb162) (o := .cells #[.int .i64 a0_0, .slice A0_1 l0_1.length c0_1] 24 (0, 0)) (bk BK162) hb); have n4_ := Aside0.mk (blk_below (g := gb167) (o := .cells #[.int .i64 t163, .slice Ao83 t164.length co83] 24 (0, 0)) (bk BK167) hb); have n5_ := Aside0.mk (below_step (bl HB) hb); clear HO166; clear HO171; clear HO175; clear BK162; clear BK167; clear HB; have HO166 := n0_; have HO171 := n1_; have HO175 := n2_; have BK162 := n3_; have BK167 := n4_; have HB := n5_; clear n0_ n1_ n2_ n3_ n4_ n5_; (try clear hb); (try clear hb2); (try clear hk); (try clear hi); have hcz89_0 : w88.cell? ⟨gb167, 0, none⟩ = some (.int .i64 t163) := (blk_cell BK167.out 0).trans rfl; have hcz89_1 : w88.cell? ⟨gb167, 1, none⟩ = some (.slice Ao83 t164.length co83) := (blk_cell BK167.out 1).trans rfl; have hfz89_0 := blk_frozen BK167.out 0; have hfz89_1 := blk_frozen BK167.out 1; obtain ⟨Ao90, co90, eo90⟩ := Kd.R_slice HO171.out; subst eo90) | (go_at_call 27; (with_reducible refine (Rx.gampref04_Permutation.calls k _ _ t168 t163 true _ ?side1 ?side2 A70.out).mono ?_); (case side1 => exact cl ((Kd.R_reads' HO171.out).2.2)); (case side2 => exact (Kd.R_reads' HO171.out).2.1); rintro e w' ⟨rfl, ⟨nd, rfl⟩⟩; (try first | exact ⟨rfl, _, World.drewN_drewN _ _ _⟩ | exact ⟨rfl, _, Eq.trans (World.drewN_drewN _ _ _) (congrArg (World.drewN _) (Nat.add_assoc _ _ _))⟩)) | (go_at_call 28; (with_reducible refine (Re.gampref04_Eliminates.calls k _ _ t164 _ _ t168 true _ ?side1 ?side2 ?side3 ?side4 A72.out).mono ?_); (case side1 => exact cl ((Kd.R_reads' HO166.out).2.2)); (case side2 => exact (Kd.R_reads' HO166.out).2.1); (case side3 => exact cl ((Kd.R_reads' HO171.out).2.2)); (case side4 => exact (Kd.R_reads' HO171.out).2.1); rintro e w91 ⟨rfl, hb⟩; have n0_ := Aside0.mk (Kd.R_below (rl HO166) hb); have n1_ := Aside0.mk (Kd.R_below (rl HO171) hb); have n2_ := Aside0.mk (Kd.R_below (rl HO175) hb); have n3_ := Aside0.mk (blk_below (g := gb162) (o := .cells #[.int .i64 a0_0, .slice A0_1 l0_1.length c0_1] 24 (0, 0)) (bk BK162) hb); have n4_ := Aside0.mk (blk_below (g := gb167) (o := .cells #[.int .i64 t163, .slice Ao83 t164.length co83] 24 (0, 0)) (bk BK167) hb); have n5_ := Aside0.mk (below_step (bl HB) hb); clear HO166; clear HO171; clear HO175; clear BK162; clear BK167; clear HB; have HO166 := n0_; have HO171 := n1_; have HO175 := n2_; have BK162 := n3_; have BK167 := n4_; have HB := n5_; clear n0_ n1_ n2_ n3_ n4_ n5_; (try clear hb); (try clear hb2); (try clear hk); (try clear hi); obtain ⟨Ao92, co92, eo92⟩ := Kd.R_slice HO175.out; subst eo92) | (go_at_call 18; (with_reducible refine (Rx.gamplaw04_lives.calls k  t180 _ A76.out).mono ?_); rintro e w93 ⟨rfl, hb⟩; have n0_ := Aside0.mk (Kd.R_below (rl HO166) hb); have n1_ := Aside0.mk (Kd.R_below (rl HO171) hb); have n2_ := Aside0.mk (Kd.R_below (rl HO175) hb); have n3_ := Aside0.mk (blk_below (g := gb162) (o := .cells #[.int .i64 a0_0, .slice A0_1 l0_1.length c0_1] 24 (0, 0)) (bk BK162) hb); have n4_ := Aside0.mk (blk_below (g := gb167) (o := .cells #[.int .i64 t163, .slice Ao83 t164.length co83] 24 (0, 0)) (bk BK167) hb); have n5_ := Aside0.mk (below_step (bl HB) hb); clear HO166; clear HO171; clear HO175; clear BK162; clear BK167; clear HB; have HO166 := n0_; have HO171 := n1_; have HO175 := n2_; have BK162 := n3_; have BK167 := n4_; have HB := n5_; clear n0_ n1_ n2_ n3_ n4_ n5_; (try clear hb); (try clear hb2); (try clear hk); (try clear hi)))
        repeat (go_quiet (first | ((with_reducible refine gate_dst (N := 1) rfl ?_); (try (refine gate_guard (by rfl) ?_; dsimp only)); refine box_event ?hg (N := 1) ?hd (cs := #[.int .i64 a0_0, .slice A0_1 l0_1.length c0_1]) (t := 24) ?hr ?_; (case hd => rfl); (case hg => rfl); (case hr => first | (go_simp; done) | (go_simp; rfl)); intro gb162 hg w77 hbox hb; have n0_ := Aside0.mk (below_step (bl HB) hb); have n1_ := Aside0.mk (hbox); have n2_ := Aside0.mk ((by rw [hg]; exact (below_size (bl HB)) : w.heap.size ≤ gb162)); have n3_ := Aside0.mk ((by rw [hg]; exact (below_size (bl HB)) : w.heap.size ≤ gb162)); clear HB; have HB := n0_; have BK162 := n1_; have GW162 := n2_; have GE162 := n3_; clear n0_ n1_ n2_ n3_; clear hb hbox hg; have hcz78_0 : w77.cell? ⟨gb162, 0, none⟩ = some (.int .i64 a0_0) := (blk_cell BK162.out 0).trans rfl; have hcz78_1 : w77.cell? ⟨gb162, 1, none⟩ = some (.slice A0_1 l0_1.length c0_1) := (blk_cell BK162.out 1).trans rfl; have hfz78_0 := blk_frozen BK162.out 0; have hfz78_1 := blk_frozen BK162.out 1) | (go_at_call 15; (with_reducible refine (Rx.gamplaw04_few.calls a0_0 _ _ l0_1 t163 t164 _ ?side1 ?side2 A2.out).mono ?_); (case side1 => exact cl (Kd.C_below HR0_1.out HB.out)); (case side2 => exact HC0_1.out); rintro e w79 ⟨v165, rfl, ho0, hb⟩; have n0_ := Aside0.mk (Kd.R_lower ho0 (below_size (bl HB))); have n1_ := Aside0.mk (blk_below (g := gb162) (o := .cells #[.int .i64 a0_0, .slice A0_1 l0_1.length c0_1] 24 (0, 0)) (bk BK162) hb); have n2_ := Aside0.mk (below_step (bl HB) hb); clear BK162; clear HB; have HO166 := n0_; have BK162 := n1_; have HB := n2_; clear n0_ n1_ n2_; (try clear hb); (try clear hb2); (try clear hk); (try clear hi); (try clear ho0)) | ((with_reducible refine gate_dst (N := 3) rfl ?_); (try (refine gate_guard (by rfl) ?_; dsimp only)); refine box_event ?hg (N := 3) ?hd (cs := #[.int .i64 0, .slice none 0 0]) (t := 24) ?hr ?_; (case hd => rfl); (case hg => rfl); (case hr => first | (go_simp; done) | (go_simp; rfl)); intro gb167 hg w80 hbox hb; have n0_ := Aside0.mk (Kd.R_below (rl HO166) hb); have n1_ := Aside0.mk (blk_below (g := gb162) (o := .cells #[.int .i64 a0_0, .slice A0_1 l0_1.length c0_1] 24 (0, 0)) (bk BK162) hb); have n2_ := Aside0.mk (below_step (bl HB) hb); have n3_ := Aside0.mk (hbox); have n4_ := Aside0.mk ((by rw [hg]; exact (below_size (bl HB)) : w.heap.size ≤ gb167)); have n5_ := Aside0.mk ((by rw [hg]; exact (below_size (bl HB)) : w.heap.size ≤ gb167)); have n6_ := Aside0.mk ((by rw [hg]; exact Nat.ne_of_lt (blk_lt (g := gb162) (o := .cells #[.int .i64 a0_0, .slice A0_1 l0_1.length c0_1] 24 (0, 0)) (bk BK162)) : gb162 ≠ gb167)); have n7_ := Aside0.mk ((by rw [hg]; exact Nat.ne_of_gt (blk_lt (g := gb162) (o := .cells #[.int .i64 a0_0, .slice A0_1 l0_1.length c0_1] 24 (0, 0)) (bk BK162)) : gb167 ≠ gb162)); clear HO166; clear BK162; clear HB; have HO166 := n0_; have BK162 := n1_; have HB := n2_; have BK167 := n3_; have GW167 := n4_; have GE167 := n5_; have NB162_167 := n6_; have NB167_162 := n7_; clear n0_ n1_ n2_ n3_ n4_ n5_ n6_ n7_; clear hb hbox hg; have hnb81 := NB167_162.out; have hnc81 := NB162_167.out; have hcz82_0 : w80.cell? ⟨gb167, 0, none⟩ = some (.int .i64 0) := (blk_cell BK167.out 0).trans rfl; have hcz82_1 : w80.cell? ⟨gb167, 1, none⟩ = some (.slice none 0 0) := (blk_cell BK167.out 1).trans rfl; have hfz82_0 := blk_frozen BK167.out 0; have hfz82_1 := blk_frozen BK167.out 1; obtain ⟨Ao83, co83, eo83⟩ := Kd.R_slice HO166.out; subst eo83) | (go_at_call 24; (with_reducible refine (Rx.rib_Order.calls k t163 _ _ t164 t168 t169 _ ?side1 ?side2 A3.out).mono ?_); (case side1 => refine (Kd.R_reads' (e := 52) (base := w.heap.size) (ok := fun k_ => True) (n := t164.length) (c := co83) ?_).2.2; exact (by (with_reducible repeat (first | apply Kd.R_alloc | apply Kd.R_drewN | apply Kd.R_drew)); exact (Kd.R_mono (Kd.R_far (p := ⟨gb167, 1, none⟩) (Kd.R_far (p := ⟨gb167, 0, none⟩) (Kd.R_types HO166.out BK167.out (by decide)) (fun _ hk => hk.2) (.int .i64 t163)) (fun _ hk => hk.2) (.slice Ao83 t164.length co83)) (fun _ h_ => h_.1)))); (case side2 => exact (Kd.R_reads' HO166.out).2.1); rintro e w84 ⟨v170, rfl, ho0, hb⟩; have n0_ := Aside0.mk (Kd.R_below (by (with_reducible repeat (first | apply Kd.R_alloc | apply Kd.R_drewN | apply Kd.R_drew)); exact (Kd.R_mono (Kd.R_far (p := ⟨gb167, 1, none⟩) (Kd.R_far (p := ⟨gb167, 0, none⟩) (Kd.R_types HO166.out BK167.out (by decide)) (fun _ hk => hk.2) (.int .i64 t163)) (fun _ hk => hk.2) (.slice Ao83 t164.length co83)) (fun _ h_ => h_.1))) hb); have n1_ := Aside0.mk (Kd.R_lower ho0 (below_size (bl HB))); have n2_ := Aside0.mk (blk_below (g := gb162) (o := .cells #[.int .i64 a0_0, .slice A0_1 l0_1.length c0_1] 24 (0, 0)) (by (with_reducible repeat (first | refine blk_drewN ?_ _ | refine blk_drew ?_ | refine blk_alloc ?_ _)); refine blk_far ?_ NB162_167.out _; (with_reducible repeat (first | refine blk_drewN ?_ _ | refine blk_drew ?_ | refine blk_alloc ?_ _)); refine blk_far ?_ NB162_167.out _; (with_reducible repeat (first | refine blk_drewN ?_ _ | refine blk_drew ?_ | refine blk_alloc ?_ _)); exact BK162.out) hb); have n3_ := Aside0.mk (blk_below (g := gb167) (o := .cells #[.int .i64 t163, .slice Ao83 t164.length co83] 24 (0, 0)) (by (with_reducible repeat (first | refine blk_drewN ?_ _ | refine blk_drew ?_ | refine blk_alloc ?_ _)); refine blk_put (cs := #[.int .i64 t163, .slice none 0 0]) ?_ 1 _ rfl; (with_reducible repeat (first | refine blk_drewN ?_ _ | refine blk_drew ?_ | refine blk_alloc ?_ _)); refine blk_put (cs := #[.int .i64 0, .slice none 0 0]) ?_ 0 _ rfl; (with_reducible repeat (first | refine blk_drewN ?_ _ | refine blk_drew ?_ | refine blk_alloc ?_ _)); exact BK167.out) hb); have n4_ := Aside0.mk (below_step (bl HB) hb); clear HO166; clear BK162; clear BK167; clear HB; have HO166 := n0_; have HO171 := n1_; have BK162 := n2_; have BK167 := n3_; have HB := n4_; clear n0_ n1_ n2_ n3_ n4_; (try clear hb); (try clear hb2); (try clear hk); (try clear hi); (try clear ho0); have hcz85_0 : w84.cell? ⟨gb167, 0, none⟩ = some (.int .i64 t163) := (blk_cell BK167.out 0).trans rfl; have hcz85_1 : w84.cell? ⟨gb167, 1, none⟩ = some (.slice Ao83 t164.length co83) := (blk_cell BK167.out 1).trans rfl; have hfz85_0 := blk_frozen BK167.out 0; have hfz85_1 := blk_frozen BK167.out 1) | (go_at_call 25; (with_reducible refine (rib_Ring.calls k t163 _ _ t164 t172 t173 _ ?side1 ?side2 A4.out).mono ?_); (case side1 => exact cl ((Kd.R_reads' HO166.out).2.2)); (case side2 => exact (Kd.R_reads' HO166.out).2.1); rintro e w86 ⟨v174, rfl, ho0, hb⟩; have n0_ := Aside0.mk (Kd.R_below (rl HO166) hb); have n1_ := Aside0.mk (Kd.R_elder' (rl HO171) (Kd.R_base ho0) hb); have n2_ := Aside0.mk (Kd.R_lower (Kd.R_new' ho0 (Kd.R_lt (rl HO171))) (below_size (bl HB))); have n3_ := Aside0.mk (blk_below (g := gb162) (o := .cells #[.int .i64 a0_0, .slice A0_1 l0_1.length c0_1] 24 (0, 0)) (bk BK162) hb); have n4_ := Aside0.mk (blk_below (g := gb167) (o := .cells #[.int .i64 t163, .slice Ao83 t164.length co83] 24 (0, 0)) (bk BK167) hb); have n5_ := Aside0.mk (below_step (bl HB) hb); clear HO166; clear HO171; clear BK162; clear BK167; clear HB; have HO166 := n0_; have HO171 := n1_; have HO175 := n2_; have BK162 := n3_; have BK167 := n4_; have HB := n5_; clear n0_ n1_ n2_ n3_ n4_ n5_; (try clear hb); (try clear hb2); (try clear hk); (try clear hi); (try clear ho0); have hcz87_0 : w86.cell? ⟨gb167, 0, none⟩ = some (.int .i64 t163) := (blk_cell BK167.out 0).trans rfl; have hcz87_1 : w86.cell? ⟨gb167, 1, none⟩ = some (.slice Ao83 t164.length co83) := (blk_cell BK167.out 1).trans rfl; have hfz87_0 := blk_frozen BK167.out 0; have hfz87_1 := blk_frozen BK167.out 1) | (go_at_call 26; (with_reducible refine (gamplaw04_chordal.calls k t163 _ _ t164 t176 _ ?side1 ?side2 A5.out).mono ?_); (case side1 => exact cl ((Kd.R_reads' HO166.out).2.2)); (case side2 => exact (Kd.R_reads' HO166.out).2.1); rintro e w88 ⟨rfl, hb⟩; have n0_ := Aside0.mk (Kd.R_below (rl HO166) hb); have n1_ := Aside0.mk (Kd.R_below (rl HO171) hb); have n2_ := Aside0.mk (Kd.R_below (rl HO175) hb); have n3_ := Aside0.mk (blk_below (g := gb162) (o := .cells #[.int .i64 a0_0, .slice A0_1 l0_1.length c0_1] 24 (0, 0)) (bk BK162) hb); have n4_ := Aside0.mk (blk_below (g := gb167) (o := .cells #[.int .i64 t163, .slice Ao83 t164.length co83] 24 (0, 0)) (bk BK167) hb); have n5_ := Aside0.mk (below_step (bl HB) hb); clear HO166; clear HO171; clear HO175; clear BK162; clear BK167; clear HB; have HO166 := n0_; have HO171 := n1_; have HO175 := n2_; have BK162 := n3_; have BK167 := n4_; have HB := n5_; clear n0_ n1_ n2_ n3_ n4_ n5_; (try clear hb); (try clear hb2); (try clear hk); (try clear hi); have hcz89_0 : w88.cell? ⟨gb167, 0, none⟩ = some (.int .i64 t163) := (blk_cell BK167.out 0).trans rfl; have hcz89_1 : w88.cell? ⟨gb167, 1, none⟩ = some (.slice Ao83 t164.length co83) := (blk_cell BK167.out 1).trans rfl; have hfz89_0 := blk_frozen BK167.out 0; have hfz89_1 := blk_frozen BK167.out 1; obtain ⟨Ao90, co90, eo90⟩ := Kd.R_slice HO171.out; subst eo90) | (go_at_call 27; (with_reducible refine (Rx.gampref04_Permutation.calls k _ _ t168 t163 true _ ?side1 ?side2 A70.out).mono ?_); (case side1 => exact cl ((Kd.R_reads' HO171.out).2.2)); (case side2 => exact (Kd.R_reads' HO171.out).2.1); rintro e w' ⟨rfl, ⟨nd, rfl⟩⟩; (try first | exact ⟨rfl, _, World.drewN_drewN _ _ _⟩ | exact ⟨rfl, _, Eq.trans (World.drewN_drewN _ _ _) (congrArg (World.drewN _) (Nat.add_assoc _ _ _))⟩)) | (go_at_call 28; (with_reducible refine (Re.gampref04_Eliminates.calls k _ _ t164 _ _ t168 true _ ?side1 ?side2 ?side3 ?side4 A72.out).mono ?_); (case side1 => exact cl ((Kd.R_reads' HO166.out).2.2)); (case side2 => exact (Kd.R_reads' HO166.out).2.1); (case side3 => exact cl ((Kd.R_reads' HO171.out).2.2)); (case side4 => exact (Kd.R_reads' HO171.out).2.1); rintro e w91 ⟨rfl, hb⟩; have n0_ := Aside0.mk (Kd.R_below (rl HO166) hb); have n1_ := Aside0.mk (Kd.R_below (rl HO171) hb); have n2_ := Aside0.mk (Kd.R_below (rl HO175) hb); have n3_ := Aside0.mk (blk_below (g := gb162) (o := .cells #[.int .i64 a0_0, .slice A0_1 l0_1.length c0_1] 24 (0, 0)) (bk BK162) hb); have n4_ := Aside0.mk (blk_below (g := gb167) (o := .cells #[.int .i64 t163, .slice Ao83 t164.length co83] 24 (0, 0)) (bk BK167) hb); have n5_ := Aside0.mk (below_step (bl HB) hb); clear HO166; clear HO171; clear HO175; clear BK162; clear BK167; clear HB; have HO166 := n0_; have HO171 := n1_; have HO175 := n2_; have BK162 := n3_; have BK167 := n4_; have HB := n5_; clear n0_ n1_ n2_ n3_ n4_ n5_; (try clear hb); (try clear hb2); (try clear hk); (try clear hi); obtain ⟨Ao92, co92, eo92⟩ := Kd.R_slice HO175.out; subst eo92) | (go_at_call 18; (with_reducible refine (Rx.gamplaw04_lives.calls k  t180 _ A76.out).mono ?_); rintro e w93 ⟨rfl, hb⟩; have n0_ := Aside0.mk (Kd.R_below (rl HO166) hb); have n1_ := Aside0.mk (Kd.R_below (rl HO171) hb); have n2_ := Aside0.mk (Kd.R_below (rl HO175) hb); have n3_ := Aside0.mk (blk_below (g := gb162) (o := .cells #[.int .i64 a0_0, .slice A0_1 l0_1.length c0_1] 24 (0, 0)) (bk BK162) hb); have n4_ := Aside0.mk (blk_below (g := gb167) (o := .cells #[.int .i64 t163, .slice Ao83 t164.length co83] 24 (0, 0)) (bk BK167) hb); have n5_ := Aside0.mk (below_step (bl HB) hb); clear HO166; clear HO171; clear HO175; clear BK162; clear BK167; clear HB; have HO166 := n0_; have HO171 := n1_; have HO175 := n2_; have BK162 := n3_; have BK167 := n4_; have HB := n5_; clear n0_ n1_ n2_ n3_ n4_ n5_; (try clear hb); (try clear hb2); (try clear hk); (try clear hi))); try go_wp2_with (first | ((with_reducible refine gate_dst (N := 1) rfl ?_); (try (refine gate_guard (by rfl) ?_; dsimp only)); refine box_event ?hg (N := 1) ?hd (cs := #[.int .i64 a0_0, .slice A0_1 l0_1.length c0_1]) (t := 24) ?hr ?_; (case hd => rfl); (case hg => rfl); (case hr => first | (go_simp; done) | (go_simp; rfl)); intro gb162 hg w77 hbox hb; have n0_ := Aside0.mk (below_step (bl HB) hb); have n1_ := Aside0.mk (hbox); have n2_ := Aside0.mk ((by rw [hg]; exact (below_size (bl HB)) : w.heap.size ≤ gb162)); have n3_ := Aside0.mk ((by rw [hg]; exact (below_size (bl HB)) : w.heap.size ≤ gb162)); clear HB; have HB := n0_; have BK162 := n1_; have GW162 := n2_; have GE162 := n3_; clear n0_ n1_ n2_ n3_; clear hb hbox hg; have hcz78_0 : w77.cell? ⟨gb162, 0, none⟩ = some (.int .i64 a0_0) := (blk_cell BK162.out 0).trans rfl; have hcz78_1 : w77.cell? ⟨gb162, 1, none⟩ = some (.slice A0_1 l0_1.length c0_1) := (blk_cell BK162.out 1).trans rfl; have hfz78_0 := blk_frozen BK162.out 0; have hfz78_1 := blk_frozen BK162.out 1) | (go_at_call 15; (with_reducible refine (Rx.gamplaw04_few.calls a0_0 _ _ l0_1 t163 t164 _ ?side1 ?side2 A2.out).mono ?_); (case side1 => exact cl (Kd.C_below HR0_1.out HB.out)); (case side2 => exact HC0_1.out); rintro e w79 ⟨v165, rfl, ho0, hb⟩; have n0_ := Aside0.mk (Kd.R_lower ho0 (below_size (bl HB))); have n1_ := Aside0.mk (blk_below (g := gb162) (o := .cells #[.int .i64 a0_0, .slice A0_1 l0_1.length c0_1] 24 (0, 0)) (bk BK162) hb); have n2_ := Aside0.mk (below_step (bl HB) hb); clear BK162; clear HB; have HO166 := n0_; have BK162 := n1_; have HB := n2_; clear n0_ n1_ n2_; (try clear hb); (try clear hb2); (try clear hk); (try clear hi); (try clear ho0)) | ((with_reducible refine gate_dst (N := 3) rfl ?_); (try (refine gate_guard (by rfl) ?_; dsimp only)); refine box_event ?hg (N := 3) ?hd (cs := #[.int .i64 0, .slice none 0 0]) (t := 24) ?hr ?_; (case hd => rfl); (case hg => rfl); (case hr => first | (go_simp; done) | (go_simp; rfl)); intro gb167 hg w80 hbox hb; have n0_ := Aside0.mk (Kd.R_below (rl HO166) hb); have n1_ := Aside0.mk (blk_below (g := gb162) (o := .cells #[.int .i64 a0_0, .slice A0_1 l0_1.length c0_1] 24 (0, 0)) (bk BK162) hb); have n2_ := Aside0.mk (below_step (bl HB) hb); have n3_ := Aside0.mk (hbox); have n4_ := Aside0.mk ((by rw [hg]; exact (below_size (bl HB)) : w.heap.size ≤ gb167)); have n5_ := Aside0.mk ((by rw [hg]; exact (below_size (bl HB)) : w.heap.size ≤ gb167)); have n6_ := Aside0.mk ((by rw [hg]; exact Nat.ne_of_lt (blk_lt (g := gb162) (o := .cells #[.int .i64 a0_0, .slice A0_1 l0_1.length c0_1] 24 (0, 0)) (bk BK162)) : gb162 ≠ gb167)); have n7_ := Aside0.mk ((by rw [hg]; exact Nat.ne_of_gt (blk_lt (g := gb162) (o := .cells #[.int .i64 a0_0, .slice A0_1 l0_1.length c0_1] 24 (0, 0)) (bk BK162)) : gb167 ≠ gb162)); clear HO166; clear BK162; clear HB; have HO166 := n0_; have BK162 := n1_; have HB := n2_; have BK167 := n3_; have GW167 := n4_; have GE167 := n5_; have NB162_167 := n6_; have NB167_162 := n7_; clear n0_ n1_ n2_ n3_ n4_ n5_ n6_ n7_; clear hb hbox hg; have hnb81 := NB167_162.out; have hnc81 := NB162_167.out; have hcz82_0 : w80.cell? ⟨gb167, 0, none⟩ = some (.int .i64 0) := (blk_cell BK167.out 0).trans rfl; have hcz82_1 : w80.cell? ⟨gb167, 1, none⟩ = some (.slice none 0 0) := (blk_cell BK167.out 1).trans rfl; have hfz82_0 := blk_frozen BK167.out 0; have hfz82_1 := blk_frozen BK167.out 1; obtain ⟨Ao83, co83, eo83⟩ := Kd.R_slice HO166.out; subst eo83) | (go_at_call 24; (with_reducible refine (Rx.rib_Order.calls k t163 _ _ t164 t168 t169 _ ?side1 ?side2 A3.out).mono ?_); (case side1 => refine (Kd.R_reads' (e := 52) (base := w.heap.size) (ok := fun k_ => True) (n := t164.length) (c := co83) ?_).2.2; exact (by (with_reducible repeat (first | apply Kd.R_alloc | apply Kd.R_drewN | apply Kd.R_drew)); exact (Kd.R_mono (Kd.R_far (p := ⟨gb167, 1, none⟩) (Kd.R_far (p := ⟨gb167, 0, none⟩) (Kd.R_types HO166.out BK167.out (by decide)) (fun _ hk => hk.2) (.int .i64 t163)) (fun _ hk => hk.2) (.slice Ao83 t164.length co83)) (fun _ h_ => h_.1)))); (case side2 => exact (Kd.R_reads' HO166.out).2.1); rintro e w84 ⟨v170, rfl, ho0, hb⟩; have n0_ := Aside0.mk (Kd.R_below (by (with_reducible repeat (first | apply Kd.R_alloc | apply Kd.R_drewN | apply Kd.R_drew)); exact (Kd.R_mono (Kd.R_far (p := ⟨gb167, 1, none⟩) (Kd.R_far (p := ⟨gb167, 0, none⟩) (Kd.R_types HO166.out BK167.out (by decide)) (fun _ hk => hk.2) (.int .i64 t163)) (fun _ hk => hk.2) (.slice Ao83 t164.length co83)) (fun _ h_ => h_.1))) hb); have n1_ := Aside0.mk (Kd.R_lower ho0 (below_size (bl HB))); have n2_ := Aside0.mk (blk_below (g := gb162) (o := .cells #[.int .i64 a0_0, .slice A0_1 l0_1.length c0_1] 24 (0, 0)) (by (with_reducible repeat (first | refine blk_drewN ?_ _ | refine blk_drew ?_ | refine blk_alloc ?_ _)); refine blk_far ?_ NB162_167.out _; (with_reducible repeat (first | refine blk_drewN ?_ _ | refine blk_drew ?_ | refine blk_alloc ?_ _)); refine blk_far ?_ NB162_167.out _; (with_reducible repeat (first | refine blk_drewN ?_ _ | refine blk_drew ?_ | refine blk_alloc ?_ _)); exact BK162.out) hb); have n3_ := Aside0.mk (blk_below (g := gb167) (o := .cells #[.int .i64 t163, .slice Ao83 t164.length co83] 24 (0, 0)) (by (with_reducible repeat (first | refine blk_drewN ?_ _ | refine blk_drew ?_ | refine blk_alloc ?_ _)); refine blk_put (cs := #[.int .i64 t163, .slice none 0 0]) ?_ 1 _ rfl; (with_reducible repeat (first | refine blk_drewN ?_ _ | refine blk_drew ?_ | refine blk_alloc ?_ _)); refine blk_put (cs := #[.int .i64 0, .slice none 0 0]) ?_ 0 _ rfl; (with_reducible repeat (first | refine blk_drewN ?_ _ | refine blk_drew ?_ | refine blk_alloc ?_ _)); exact BK167.out) hb); have n4_ := Aside0.mk (below_step (bl HB) hb); clear HO166; clear BK162; clear BK167; clear HB; have HO166 := n0_; have HO171 := n1_; have BK162 := n2_; have BK167 := n3_; have HB := n4_; clear n0_ n1_ n2_ n3_ n4_; (try clear hb); (try clear hb2); (try clear hk); (try clear hi); (try clear ho0); have hcz85_0 : w84.cell? ⟨gb167, 0, none⟩ = some (.int .i64 t163) := (blk_cell BK167.out 0).trans rfl; have hcz85_1 : w84.cell? ⟨gb167, 1, none⟩ = some (.slice Ao83 t164.length co83) := (blk_cell BK167.out 1).trans rfl; have hfz85_0 := blk_frozen BK167.out 0; have hfz85_1 := blk_frozen BK167.out 1) | (go_at_call 25; (with_reducible refine (rib_Ring.calls k t163 _ _ t164 t172 t173 _ ?side1 ?side2 A4.out).mono ?_); (case side1 => exact cl ((Kd.R_reads' HO166.out).2.2)); (case side2 => exact (Kd.R_reads' HO166.out).2.1); rintro e w86 ⟨v174, rfl, ho0, hb⟩; have n0_ := Aside0.mk (Kd.R_below (rl HO166) hb); have n1_ := Aside0.mk (Kd.R_elder' (rl HO171) (Kd.R_base ho0) hb); have n2_ := Aside0.mk (Kd.R_lower (Kd.R_new' ho0 (Kd.R_lt (rl HO171))) (below_size (bl HB))); have n3_ := Aside0.mk (blk_below (g := gb162) (o := .cells #[.int .i64 a0_0, .slice A0_1 l0_1.length c0_1] 24 (0, 0)) (bk BK162) hb); have n4_ := Aside0.mk (blk_below (g := gb167) (o := .cells #[.int .i64 t163, .slice Ao83 t164.length co83] 24 (0, 0)) (bk BK167) hb); have n5_ := Aside0.mk (below_step (bl HB) hb); clear HO166; clear HO171; clear BK162; clear BK167; clear HB; have HO166 := n0_; have HO171 := n1_; have HO175 := n2_; have BK162 := n3_; have BK167 := n4_; have HB := n5_; clear n0_ n1_ n2_ n3_ n4_ n5_; (try clear hb); (try clear hb2); (try clear hk); (try clear hi); (try clear ho0); have hcz87_0 : w86.cell? ⟨gb167, 0, none⟩ = some (.int .i64 t163) := (blk_cell BK167.out 0).trans rfl; have hcz87_1 : w86.cell? ⟨gb167, 1, none⟩ = some (.slice Ao83 t164.length co83) := (blk_cell BK167.out 1).trans rfl; have hfz87_0 := blk_frozen BK167.out 0; have hfz87_1 := blk_frozen BK167.out 1) | (go_at_call 26; (with_reducible refine (gamplaw04_chordal.calls k t163 _ _ t164 t176 _ ?side1 ?side2 A5.out).mono ?_); (case side1 => exact cl ((Kd.R_reads' HO166.out).2.2)); (case side2 => exact (Kd.R_reads' HO166.out).2.1); rintro e w88 ⟨rfl, hb⟩; have n0_ := Aside0.mk (Kd.R_below (rl HO166) hb); have n1_ := Aside0.mk (Kd.R_below (rl HO171) hb); have n2_ := Aside0.mk (Kd.R_below (rl HO175) hb); have n3_ := Aside0.mk (blk_below (g := gb162) (o := .cells #[.int .i64 a0_0, .slice A0_1 l0_1.length c0_1] 24 (0, 0)) (bk BK162) hb); have n4_ := Aside0.mk (blk_below (g := gb167) (o := .cells #[.int .i64 t163, .slice Ao83 t164.length co83] 24 (0, 0)) (bk BK167) hb); have n5_ := Aside0.mk (below_step (bl HB) hb); clear HO166; clear HO171; clear HO175; clear BK162; clear BK167; clear HB; have HO166 := n0_; have HO171 := n1_; have HO175 := n2_; have BK162 := n3_; have BK167 := n4_; have HB := n5_; clear n0_ n1_ n2_ n3_ n4_ n5_; (try clear hb); (try clear hb2); (try clear hk); (try clear hi); have hcz89_0 : w88.cell? ⟨gb167, 0, none⟩ = some (.int .i64 t163) := (blk_cell BK167.out 0).trans rfl; have hcz89_1 : w88.cell? ⟨gb167, 1, none⟩ = some (.slice Ao83 t164.length co83) := (blk_cell BK167.out 1).trans rfl; have hfz89_0 := blk_frozen BK167.out 0; have hfz89_1 := blk_frozen BK167.out 1; obtain ⟨Ao90, co90, eo90⟩ := Kd.R_slice HO171.out; subst eo90) | (go_at_call 27; (with_reducible refine (Rx.gampref04_Permutation.calls k _ _ t168 t163 true _ ?side1 ?side2 A70.out).mono ?_); (case side1 => exact cl ((Kd.R_reads' HO171.out).2.2)); (case side2 => exact (Kd.R_reads' HO171.out).2.1); rintro e w' ⟨rfl, ⟨nd, rfl⟩⟩; (try first | exact ⟨rfl, _, World.drewN_drewN _ _ _⟩ | exact ⟨rfl, _, Eq.trans (World.drewN_drewN _ _ _) (congrArg (World.drewN _) (Nat.add_assoc _ _ _))⟩)) | (go_at_call 28; (with_reducible refine (Re.gampref04_Eliminates.calls k _ _ t164 _ _ t168 true _ ?side1 ?side2 ?side3 ?side4 A72.out).mono ?_); (case side1 => exact cl ((Kd.R_reads' HO166.out).2.2)); (case side2 => exact (Kd.R_reads' HO166.out).2.1); (case side3 => exact cl ((Kd.R_reads' HO171.out).2.2)); (case side4 => exact (Kd.R_reads' HO171.out).2.1); rintro e w91 ⟨rfl, hb⟩; have n0_ := Aside0.mk (Kd.R_below (rl HO166) hb); have n1_ := Aside0.mk (Kd.R_below (rl HO171) hb); have n2_ := Aside0.mk (Kd.R_below (rl HO175) hb); have n3_ := Aside0.mk (blk_below (g := gb162) (o := .cells #[.int .i64 a0_0, .slice A0_1 l0_1.length c0_1] 24 (0, 0)) (bk BK162) hb); have n4_ := Aside0.mk (blk_below (g := gb167) (o := .cells #[.int .i64 t163, .slice Ao83 t164.length co83] 24 (0, 0)) (bk BK167) hb); have n5_ := Aside0.mk (below_step (bl HB) hb); clear HO166; clear HO171; clear HO175; clear BK162; clear BK167; clear HB; have HO166 := n0_; have HO171 := n1_; have HO175 := n2_; have BK162 := n3_; have BK167 := n4_; have HB := n5_; clear n0_ n1_ n2_ n3_ n4_ n5_; (try clear hb); (try clear hb2); (try clear hk); (try clear hi); obtain ⟨Ao92, co92, eo92⟩ := Kd.R_slice HO175.out; subst eo92) | (go_at_call 18; (with_reducible refine (Rx.gamplaw04_lives.calls k  t180 _ A76.out).mono ?_); rintro e w93 ⟨rfl, hb⟩; have n0_ := Aside0.mk (Kd.R_below (rl HO166) hb); have n1_ := Aside0.mk (Kd.R_below (rl HO171) hb); have n2_ := Aside0.mk (Kd.R_below (rl HO175) hb); have n3_ := Aside0.mk (blk_below (g := gb162) (o := .cells #[.int .i64 a0_0, .slice A0_1 l0_1.length c0_1] 24 (0, 0)) (bk BK162) hb); have n4_ := Aside0.mk (blk_below (g := gb167) (o := .cells #[.int .i64 t163, .slice Ao83 t164.length co83] 24 (0, 0)) (bk BK167) hb); have n5_ := Aside0.mk (below_step (bl HB) hb); clear HO166; clear HO171; clear HO175; clear BK162; clear BK167; clear HB; have HO166 := n0_; have HO171 := n1_; have HO175 := n2_; have BK162 := n3_; have BK167 := n4_; have HB := n5_; clear n0_ n1_ n2_ n3_ n4_ n5_; (try clear hb); (try clear hb2); (try clear hk); (try clear hi))))
        go_ret
        exact ⟨by first | rfl | (simp [errW_none, errW_some] <;> rfl) | (simp [*, errW_none, errW_some] <;> rfl), by repeat (first | (with_reducible first | exact HB.out | apply below_alloc | apply pw_below_drewN | apply below_drew1 | refine below_set ?_ GE162.out | refine below_set ?_ GE167.out) | exact HB.out)⟩
       ·rw [if_neg c75] at H
        have c75b0 : (t173 == 5) = false := beq_eq_false_iff_ne.mpr c75
        have c75b1 : (t173 != 5) = true := bne_iff_ne.mpr c75
        rw [hrt] at H
        cases H
      ·rw [if_neg c74] at H
       have c74b0 : ((t172.length : Int) == 0) = false := beq_eq_false_iff_ne.mpr c74
       have c74b1 : ((t172.length : Int) != 0) = true := bne_iff_ne.mpr c74
       have c74b2 : ¬ (t172 = []) := fun h_ => c74 (by rw [h_]; rfl)
       rw [hrt] at H
       cases H
     ·replace c73 := Bool.eq_false_iff.mpr c73
      subst c73
      have H1 : (some false) = some r := by rw [if_neg (show ¬ (false = true) by decide)] at H; exact H
      clear H
      have H := H1
      clear H1
      rw [hrt] at H
      cases H
    ·replace c71 := Bool.eq_false_iff.mpr c71
     subst c71
     have H1 : (some false) = some r := by rw [if_neg (show ¬ (false = true) by decide)] at H; exact H
     clear H
     have H := H1
     clear H1
     rw [hrt] at H
     cases H
   ·rw [if_neg c69] at H
    have c69b0 : (t169 == 0) = false := beq_eq_false_iff_ne.mpr c69
    have c69b1 : (t169 != 0) = true := bne_iff_ne.mpr c69
    rw [hrt] at H
    cases H
  ·rw [if_neg c68] at H
   have c68b0 : (t176 == 0) = false := beq_eq_false_iff_ne.mpr c68
   have c68b1 : (t176 != 0) = true := bne_iff_ne.mpr c68
   have HC167 := Aside0.mk H
   clear H
   go_enter Try.func5, Try.ntmps5
   go_upto_region 9 with (first | ((with_reducible refine gate_dst (N := 1) rfl ?_); (try (refine gate_guard (by rfl) ?_; dsimp only)); refine box_event ?hg (N := 1) ?hd (cs := #[.int .i64 a0_0, .slice A0_1 l0_1.length c0_1]) (t := 24) ?hr ?_; (case hd => rfl); (case hg => rfl); (case hr => first | (go_simp; done) | (go_simp; rfl)); intro gb162 hg w168 hbox hb; have n0_ := Aside0.mk (below_step (bl HB) hb); have n1_ := Aside0.mk (hbox); have n2_ := Aside0.mk ((by rw [hg]; exact (below_size (bl HB)) : w.heap.size ≤ gb162)); have n3_ := Aside0.mk ((by rw [hg]; exact (below_size (bl HB)) : w.heap.size ≤ gb162)); clear HB; have HB := n0_; have BK162 := n1_; have GW162 := n2_; have GE162 := n3_; clear n0_ n1_ n2_ n3_; clear hb hbox hg; have hcz169_0 : w168.cell? ⟨gb162, 0, none⟩ = some (.int .i64 a0_0) := (blk_cell BK162.out 0).trans rfl; have hcz169_1 : w168.cell? ⟨gb162, 1, none⟩ = some (.slice A0_1 l0_1.length c0_1) := (blk_cell BK162.out 1).trans rfl; have hfz169_0 := blk_frozen BK162.out 0; have hfz169_1 := blk_frozen BK162.out 1) | (go_at_call 15; (with_reducible refine (Rx.gamplaw04_few.calls a0_0 _ _ l0_1 t163 t164 _ ?side1 ?side2 A2.out).mono ?_); (case side1 => exact cl (Kd.C_below HR0_1.out HB.out)); (case side2 => exact HC0_1.out); rintro e w170 ⟨v165, rfl, ho0, hb⟩; have n0_ := Aside0.mk (Kd.R_lower ho0 (below_size (bl HB))); have n1_ := Aside0.mk (blk_below (g := gb162) (o := .cells #[.int .i64 a0_0, .slice A0_1 l0_1.length c0_1] 24 (0, 0)) (bk BK162) hb); have n2_ := Aside0.mk (below_step (bl HB) hb); clear BK162; clear HB; have HO166 := n0_; have BK162 := n1_; have HB := n2_; clear n0_ n1_ n2_; (try clear hb); (try clear hb2); (try clear hk); (try clear hi); (try clear ho0)) | ((with_reducible refine gate_dst (N := 3) rfl ?_); (try (refine gate_guard (by rfl) ?_; dsimp only)); refine box_event ?hg (N := 3) ?hd (cs := #[.int .i64 0, .slice none 0 0]) (t := 24) ?hr ?_; (case hd => rfl); (case hg => rfl); (case hr => first | (go_simp; done) | (go_simp; rfl)); intro gb167 hg w171 hbox hb; have n0_ := Aside0.mk (Kd.R_below (rl HO166) hb); have n1_ := Aside0.mk (blk_below (g := gb162) (o := .cells #[.int .i64 a0_0, .slice A0_1 l0_1.length c0_1] 24 (0, 0)) (bk BK162) hb); have n2_ := Aside0.mk (below_step (bl HB) hb); have n3_ := Aside0.mk (hbox); have n4_ := Aside0.mk ((by rw [hg]; exact (below_size (bl HB)) : w.heap.size ≤ gb167)); have n5_ := Aside0.mk ((by rw [hg]; exact (below_size (bl HB)) : w.heap.size ≤ gb167)); have n6_ := Aside0.mk ((by rw [hg]; exact Nat.ne_of_lt (blk_lt (g := gb162) (o := .cells #[.int .i64 a0_0, .slice A0_1 l0_1.length c0_1] 24 (0, 0)) (bk BK162)) : gb162 ≠ gb167)); have n7_ := Aside0.mk ((by rw [hg]; exact Nat.ne_of_gt (blk_lt (g := gb162) (o := .cells #[.int .i64 a0_0, .slice A0_1 l0_1.length c0_1] 24 (0, 0)) (bk BK162)) : gb167 ≠ gb162)); clear HO166; clear BK162; clear HB; have HO166 := n0_; have BK162 := n1_; have HB := n2_; have BK167 := n3_; have GW167 := n4_; have GE167 := n5_; have NB162_167 := n6_; have NB167_162 := n7_; clear n0_ n1_ n2_ n3_ n4_ n5_ n6_ n7_; clear hb hbox hg; have hnb172 := NB167_162.out; have hnc172 := NB162_167.out; have hcz173_0 : w171.cell? ⟨gb167, 0, none⟩ = some (.int .i64 0) := (blk_cell BK167.out 0).trans rfl; have hcz173_1 : w171.cell? ⟨gb167, 1, none⟩ = some (.slice none 0 0) := (blk_cell BK167.out 1).trans rfl; have hfz173_0 := blk_frozen BK167.out 0; have hfz173_1 := blk_frozen BK167.out 1; obtain ⟨Ao174, co174, eo174⟩ := Kd.R_slice HO166.out; subst eo174) | (go_at_call 24; (with_reducible refine (Rx.rib_Order.calls k t163 _ _ t164 t168 t169 _ ?side1 ?side2 A3.out).mono ?_); (case side1 => refine (Kd.R_reads' (e := 52) (base := w.heap.size) (ok := fun k_ => True) (n := t164.length) (c := co174) ?_).2.2; exact (by (with_reducible repeat (first | apply Kd.R_alloc | apply Kd.R_drewN | apply Kd.R_drew)); exact (Kd.R_mono (Kd.R_far (p := ⟨gb167, 1, none⟩) (Kd.R_far (p := ⟨gb167, 0, none⟩) (Kd.R_types HO166.out BK167.out (by decide)) (fun _ hk => hk.2) (.int .i64 t163)) (fun _ hk => hk.2) (.slice Ao174 t164.length co174)) (fun _ h_ => h_.1)))); (case side2 => exact (Kd.R_reads' HO166.out).2.1); rintro e w175 ⟨v170, rfl, ho0, hb⟩; have n0_ := Aside0.mk (Kd.R_below (by (with_reducible repeat (first | apply Kd.R_alloc | apply Kd.R_drewN | apply Kd.R_drew)); exact (Kd.R_mono (Kd.R_far (p := ⟨gb167, 1, none⟩) (Kd.R_far (p := ⟨gb167, 0, none⟩) (Kd.R_types HO166.out BK167.out (by decide)) (fun _ hk => hk.2) (.int .i64 t163)) (fun _ hk => hk.2) (.slice Ao174 t164.length co174)) (fun _ h_ => h_.1))) hb); have n1_ := Aside0.mk (Kd.R_lower ho0 (below_size (bl HB))); have n2_ := Aside0.mk (blk_below (g := gb162) (o := .cells #[.int .i64 a0_0, .slice A0_1 l0_1.length c0_1] 24 (0, 0)) (by (with_reducible repeat (first | refine blk_drewN ?_ _ | refine blk_drew ?_ | refine blk_alloc ?_ _)); refine blk_far ?_ NB162_167.out _; (with_reducible repeat (first | refine blk_drewN ?_ _ | refine blk_drew ?_ | refine blk_alloc ?_ _)); refine blk_far ?_ NB162_167.out _; (with_reducible repeat (first | refine blk_drewN ?_ _ | refine blk_drew ?_ | refine blk_alloc ?_ _)); exact BK162.out) hb); have n3_ := Aside0.mk (blk_below (g := gb167) (o := .cells #[.int .i64 t163, .slice Ao174 t164.length co174] 24 (0, 0)) (by (with_reducible repeat (first | refine blk_drewN ?_ _ | refine blk_drew ?_ | refine blk_alloc ?_ _)); refine blk_put (cs := #[.int .i64 t163, .slice none 0 0]) ?_ 1 _ rfl; (with_reducible repeat (first | refine blk_drewN ?_ _ | refine blk_drew ?_ | refine blk_alloc ?_ _)); refine blk_put (cs := #[.int .i64 0, .slice none 0 0]) ?_ 0 _ rfl; (with_reducible repeat (first | refine blk_drewN ?_ _ | refine blk_drew ?_ | refine blk_alloc ?_ _)); exact BK167.out) hb); have n4_ := Aside0.mk (below_step (bl HB) hb); clear HO166; clear BK162; clear BK167; clear HB; have HO166 := n0_; have HO171 := n1_; have BK162 := n2_; have BK167 := n3_; have HB := n4_; clear n0_ n1_ n2_ n3_ n4_; (try clear hb); (try clear hb2); (try clear hk); (try clear hi); (try clear ho0); have hcz176_0 : w175.cell? ⟨gb167, 0, none⟩ = some (.int .i64 t163) := (blk_cell BK167.out 0).trans rfl; have hcz176_1 : w175.cell? ⟨gb167, 1, none⟩ = some (.slice Ao174 t164.length co174) := (blk_cell BK167.out 1).trans rfl; have hfz176_0 := blk_frozen BK167.out 0; have hfz176_1 := blk_frozen BK167.out 1) | (go_at_call 25; (with_reducible refine (rib_Ring.calls k t163 _ _ t164 t172 t173 _ ?side1 ?side2 A4.out).mono ?_); (case side1 => exact cl ((Kd.R_reads' HO166.out).2.2)); (case side2 => exact (Kd.R_reads' HO166.out).2.1); rintro e w177 ⟨v174, rfl, ho0, hb⟩; have n0_ := Aside0.mk (Kd.R_below (rl HO166) hb); have n1_ := Aside0.mk (Kd.R_elder' (rl HO171) (Kd.R_base ho0) hb); have n2_ := Aside0.mk (Kd.R_lower (Kd.R_new' ho0 (Kd.R_lt (rl HO171))) (below_size (bl HB))); have n3_ := Aside0.mk (blk_below (g := gb162) (o := .cells #[.int .i64 a0_0, .slice A0_1 l0_1.length c0_1] 24 (0, 0)) (bk BK162) hb); have n4_ := Aside0.mk (blk_below (g := gb167) (o := .cells #[.int .i64 t163, .slice Ao174 t164.length co174] 24 (0, 0)) (bk BK167) hb); have n5_ := Aside0.mk (below_step (bl HB) hb); clear HO166; clear HO171; clear BK162; clear BK167; clear HB; have HO166 := n0_; have HO171 := n1_; have HO175 := n2_; have BK162 := n3_; have BK167 := n4_; have HB := n5_; clear n0_ n1_ n2_ n3_ n4_ n5_; (try clear hb); (try clear hb2); (try clear hk); (try clear hi); (try clear ho0); have hcz178_0 : w177.cell? ⟨gb167, 0, none⟩ = some (.int .i64 t163) := (blk_cell BK167.out 0).trans rfl; have hcz178_1 : w177.cell? ⟨gb167, 1, none⟩ = some (.slice Ao174 t164.length co174) := (blk_cell BK167.out 1).trans rfl; have hfz178_0 := blk_frozen BK167.out 0; have hfz178_1 := blk_frozen BK167.out 1) | (go_at_call 26; (with_reducible refine (gamplaw04_chordal.calls k t163 _ _ t164 t176 _ ?side1 ?side2 A5.out).mono ?_); (case side1 => exact cl ((Kd.R_reads' HO166.out).2.2)); (case side2 => exact (Kd.R_reads' HO166.out).2.1); rintro e w179 ⟨rfl, hb⟩; have n0_ := Aside0.mk (Kd.R_below (rl HO166) hb); have n1_ := Aside0.mk (Kd.R_below (rl HO171) hb); have n2_ := Aside0.mk (Kd.R_below (rl HO175) hb); have n3_ := Aside0.mk (blk_below (g := gb162) (o := .cells #[.int .i64 a0_0, .slice A0_1 l0_1.length c0_1] 24 (0, 0)) (bk BK162) hb); have n4_ := Aside0.mk (blk_below (g := gb167) (o := .cells #[.int .i64 t163, .slice Ao174 t164.length co174] 24 (0, 0)) (bk BK167) hb); have n5_ := Aside0.mk (below_step (bl HB) hb); clear HO166; clear HO171; clear HO175; clear BK162; clear BK167; clear HB; have HO166 := n0_; have HO171 := n1_; have HO175 := n2_; have BK162 := n3_; have BK167 := n4_; have HB := n5_; clear n0_ n1_ n2_ n3_ n4_ n5_; (try clear hb); (try clear hb2); (try clear hk); (try clear hi)))
   repeat (go_quiet (first | ((with_reducible refine gate_dst (N := 1) rfl ?_); (try (refine gate_guard (by rfl) ?_; dsimp only)); refine box_event ?hg (N := 1) ?hd (cs := #[.int .i64 a0_0, .slice A0_1 l0_1.length c0_1]) (t := 24) ?hr ?_; (case hd => rfl); (case hg => rfl); (case hr => first | (go_simp; done) | (go_simp; rfl)); intro gb162 hg w168 hbox hb; have n0_ := Aside0.mk (below_step (bl HB) hb); have n1_ := Aside0.mk (hbox); have n2_ := Aside0.mk ((by rw [hg]; exact (below_size (bl HB)) : w.heap.size ≤ gb162)); have n3_ := Aside0.mk ((by rw [hg]; exact (below_size (bl HB)) : w.heap.size ≤ gb162)); clear HB; have HB := n0_; have BK162 := n1_; have GW162 := n2_; have GE162 := n3_; clear n0_ n1_ n2_ n3_; clear hb hbox hg; have hcz169_0 : w168.cell? ⟨gb162, 0, none⟩ = some (.int .i64 a0_0) := (blk_cell BK162.out 0).trans rfl; have hcz169_1 : w168.cell? ⟨gb162, 1, none⟩ = some (.slice A0_1 l0_1.length c0_1) := (blk_cell BK162.out 1).trans rfl; have hfz169_0 := blk_frozen BK162.out 0; have hfz169_1 := blk_frozen BK162.out 1) | (go_at_call 15; (with_reducible refine (Rx.gamplaw04_few.calls a0_0 _ _ l0_1 t163 t164 _ ?side1 ?side2 A2.out).mono ?_); (case side1 => exact cl (Kd.C_below HR0_1.out HB.out)); (case side2 => exact HC0_1.out); rintro e w170 ⟨v165, rfl, ho0, hb⟩; have n0_ := Aside0.mk (Kd.R_lower ho0 (below_size (bl HB))); have n1_ := Aside0.mk (blk_below (g := gb162) (o := .cells #[.int .i64 a0_0, .slice A0_1 l0_1.length c0_1] 24 (0, 0)) (bk BK162) hb); have n2_ := Aside0.mk (below_step (bl HB) hb); clear BK162; clear HB; have HO166 := n0_; have BK162 := n1_; have HB := n2_; clear n0_ n1_ n2_; (try clear hb); (try clear hb2); (try clear hk); (try clear hi); (try clear ho0)) | ((with_reducible refine gate_dst (N := 3) rfl ?_); (try (refine gate_guard (by rfl) ?_; dsimp only)); refine box_event ?hg (N := 3) ?hd (cs := #[.int .i64 0, .slice none 0 0]) (t := 24) ?hr ?_; (case hd => rfl); (case hg => rfl); (case hr => first | (go_simp; done) | (go_simp; rfl)); intro gb167 hg w171 hbox hb; have n0_ := Aside0.mk (Kd.R_below (rl HO166) hb); have n1_ := Aside0.mk (blk_below (g := gb162) (o := .cells #[.int .i64 a0_0, .slice A0_1 l0_1.length c0_1] 24 (0, 0)) (bk BK162) hb); have n2_ := Aside0.mk (below_step (bl HB) hb); have n3_ := Aside0.mk (hbox); have n4_ := Aside0.mk ((by rw [hg]; exact (below_size (bl HB)) : w.heap.size ≤ gb167)); have n5_ := Aside0.mk ((by rw [hg]; exact (below_size (bl HB)) : w.heap.size ≤ gb167)); have n6_ := Aside0.mk ((by rw [hg]; exact Nat.ne_of_lt (blk_lt (g := gb162) (o := .cells #[.int .i64 a0_0, .slice A0_1 l0_1.length c0_1] 24 (0, 0)) (bk BK162)) : gb162 ≠ gb167)); have n7_ := Aside0.mk ((by rw [hg]; exact Nat.ne_of_gt (blk_lt (g := gb162) (o := .cells #[.int .i64 a0_0, .slice A0_1 l0_1.length c0_1] 24 (0, 0)) (bk BK162)) : gb167 ≠ gb162)); clear HO166; clear BK162; clear HB; have HO166 := n0_; have BK162 := n1_; have HB := n2_; have BK167 := n3_; have GW167 := n4_; have GE167 := n5_; have NB162_167 := n6_; have NB167_162 := n7_; clear n0_ n1_ n2_ n3_ n4_ n5_ n6_ n7_; clear hb hbox hg; have hnb172 := NB167_162.out; have hnc172 := NB162_167.out; have hcz173_0 : w171.cell? ⟨gb167, 0, none⟩ = some (.int .i64 0) := (blk_cell BK167.out 0).trans rfl; have hcz173_1 : w171.cell? ⟨gb167, 1, none⟩ = some (.slice none 0 0) := (blk_cell BK167.out 1).trans rfl; have hfz173_0 := blk_frozen BK167.out 0; have hfz173_1 := blk_frozen BK167.out 1; obtain ⟨Ao174, co174, eo174⟩ := Kd.R_slice HO166.out; subst eo174) | (go_at_call 24; (with_reducible refine (Rx.rib_Order.calls k t163 _ _ t164 t168 t169 _ ?side1 ?side2 A3.out).mono ?_); (case side1 => refine (Kd.R_reads' (e := 52) (base := w.heap.size) (ok := fun k_ => True) (n := t164.length) (c := co174) ?_).2.2; exact (by (with_reducible repeat (first | apply Kd.R_alloc | apply Kd.R_drewN | apply Kd.R_drew)); exact (Kd.R_mono (Kd.R_far (p := ⟨gb167, 1, none⟩) (Kd.R_far (p := ⟨gb167, 0, none⟩) (Kd.R_types HO166.out BK167.out (by decide)) (fun _ hk => hk.2) (.int .i64 t163)) (fun _ hk => hk.2) (.slice Ao174 t164.length co174)) (fun _ h_ => h_.1)))); (case side2 => exact (Kd.R_reads' HO166.out).2.1); rintro e w175 ⟨v170, rfl, ho0, hb⟩; have n0_ := Aside0.mk (Kd.R_below (by (with_reducible repeat (first | apply Kd.R_alloc | apply Kd.R_drewN | apply Kd.R_drew)); exact (Kd.R_mono (Kd.R_far (p := ⟨gb167, 1, none⟩) (Kd.R_far (p := ⟨gb167, 0, none⟩) (Kd.R_types HO166.out BK167.out (by decide)) (fun _ hk => hk.2) (.int .i64 t163)) (fun _ hk => hk.2) (.slice Ao174 t164.length co174)) (fun _ h_ => h_.1))) hb); have n1_ := Aside0.mk (Kd.R_lower ho0 (below_size (bl HB))); have n2_ := Aside0.mk (blk_below (g := gb162) (o := .cells #[.int .i64 a0_0, .slice A0_1 l0_1.length c0_1] 24 (0, 0)) (by (with_reducible repeat (first | refine blk_drewN ?_ _ | refine blk_drew ?_ | refine blk_alloc ?_ _)); refine blk_far ?_ NB162_167.out _; (with_reducible repeat (first | refine blk_drewN ?_ _ | refine blk_drew ?_ | refine blk_alloc ?_ _)); refine blk_far ?_ NB162_167.out _; (with_reducible repeat (first | refine blk_drewN ?_ _ | refine blk_drew ?_ | refine blk_alloc ?_ _)); exact BK162.out) hb); have n3_ := Aside0.mk (blk_below (g := gb167) (o := .cells #[.int .i64 t163, .slice Ao174 t164.length co174] 24 (0, 0)) (by (with_reducible repeat (first | refine blk_drewN ?_ _ | refine blk_drew ?_ | refine blk_alloc ?_ _)); refine blk_put (cs := #[.int .i64 t163, .slice none 0 0]) ?_ 1 _ rfl; (with_reducible repeat (first | refine blk_drewN ?_ _ | refine blk_drew ?_ | refine blk_alloc ?_ _)); refine blk_put (cs := #[.int .i64 0, .slice none 0 0]) ?_ 0 _ rfl; (with_reducible repeat (first | refine blk_drewN ?_ _ | refine blk_drew ?_ | refine blk_alloc ?_ _)); exact BK167.out) hb); have n4_ := Aside0.mk (below_step (bl HB) hb); clear HO166; clear BK162; clear BK167; clear HB; have HO166 := n0_; have HO171 := n1_; have BK162 := n2_; have BK167 := n3_; have HB := n4_; clear n0_ n1_ n2_ n3_ n4_; (try clear hb); (try clear hb2); (try clear hk); (try clear hi); (try clear ho0); have hcz176_0 : w175.cell? ⟨gb167, 0, none⟩ = some (.int .i64 t163) := (blk_cell BK167.out 0).trans rfl; have hcz176_1 : w175.cell? ⟨gb167, 1, none⟩ = some (.slice Ao174 t164.length co174) := (blk_cell BK167.out 1).trans rfl; have hfz176_0 := blk_frozen BK167.out 0; have hfz176_1 := blk_frozen BK167.out 1) | (go_at_call 25; (with_reducible refine (rib_Ring.calls k t163 _ _ t164 t172 t173 _ ?side1 ?side2 A4.out).mono ?_); (case side1 => exact cl ((Kd.R_reads' HO166.out).2.2)); (case side2 => exact (Kd.R_reads' HO166.out).2.1); rintro e w177 ⟨v174, rfl, ho0, hb⟩; have n0_ := Aside0.mk (Kd.R_below (rl HO166) hb); have n1_ := Aside0.mk (Kd.R_elder' (rl HO171) (Kd.R_base ho0) hb); have n2_ := Aside0.mk (Kd.R_lower (Kd.R_new' ho0 (Kd.R_lt (rl HO171))) (below_size (bl HB))); have n3_ := Aside0.mk (blk_below (g := gb162) (o := .cells #[.int .i64 a0_0, .slice A0_1 l0_1.length c0_1] 24 (0, 0)) (bk BK162) hb); have n4_ := Aside0.mk (blk_below (g := gb167) (o := .cells #[.int .i64 t163, .slice Ao174 t164.length co174] 24 (0, 0)) (bk BK167) hb); have n5_ := Aside0.mk (below_step (bl HB) hb); clear HO166; clear HO171; clear BK162; clear BK167; clear HB; have HO166 := n0_; have HO171 := n1_; have HO175 := n2_; have BK162 := n3_; have BK167 := n4_; have HB := n5_; clear n0_ n1_ n2_ n3_ n4_ n5_; (try clear hb); (try clear hb2); (try clear hk); (try clear hi); (try clear ho0); have hcz178_0 : w177.cell? ⟨gb167, 0, none⟩ = some (.int .i64 t163) := (blk_cell BK167.out 0).trans rfl; have hcz178_1 : w177.cell? ⟨gb167, 1, none⟩ = some (.slice Ao174 t164.length co174) := (blk_cell BK167.out 1).trans rfl; have hfz178_0 := blk_frozen BK167.out 0; have hfz178_1 := blk_frozen BK167.out 1) | (go_at_call 26; (with_reducible refine (gamplaw04_chordal.calls k t163 _ _ t164 t176 _ ?side1 ?side2 A5.out).mono ?_); (case side1 => exact cl ((Kd.R_reads' HO166.out).2.2)); (case side2 => exact (Kd.R_reads' HO166.out).2.1); rintro e w179 ⟨rfl, hb⟩; have n0_ := Aside0.mk (Kd.R_below (rl HO166) hb); have n1_ := Aside0.mk (Kd.R_below (rl HO171) hb); have n2_ := Aside0.mk (Kd.R_below (rl HO175) hb); have n3_ := Aside0.mk (blk_below (g := gb162) (o := .cells #[.int .i64 a0_0, .slice A0_1 l0_1.length c0_1] 24 (0, 0)) (bk BK162) hb); have n4_ := Aside0.mk (blk_below (g := gb167) (o := .cells #[.int .i64 t163, .slice Ao174 t164.length co174] 24 (0, 0)) (bk BK167) hb); have n5_ := Aside0.mk (below_step (bl HB) hb); clear HO166; clear HO171; clear HO175; clear BK162; clear BK167; clear HB; have HO166 := n0_; have HO171 := n1_; have HO175 := n2_; have BK162 := n3_; have BK167 := n4_; have HB := n5_; clear n0_ n1_ n2_ n3_ n4_ n5_; (try clear hb); (try clear hb2); (try clear hk); (try clear hi))); go_upto_region 9 with (first | ((with_reducible refine gate_dst (N := 1) rfl ?_); (try (refine gate_guard (by rfl) ?_; dsimp only)); refine box_event ?hg (N := 1) ?hd (cs := #[.int .i64 a0_0, .slice A0_1 l0_1.length c0_1]) (t := 24) ?hr ?_; (case hd => rfl); (case hg => rfl); (case hr => first | (go_simp; done) | (go_simp; rfl)); intro gb162 hg w168 hbox hb; have n0_ := Aside0.mk (below_step (bl HB) hb); have n1_ := Aside0.mk (hbox); have n2_ := Aside0.mk ((by rw [hg]; exact (below_size (bl HB)) : w.heap.size ≤ gb162)); have n3_ := Aside0.mk ((by rw [hg]; exact (below_size (bl HB)) : w.heap.size ≤ gb162)); clear HB; have HB := n0_; have BK162 := n1_; have GW162 := n2_; have GE162 := n3_; clear n0_ n1_ n2_ n3_; clear hb hbox hg; have hcz169_0 : w168.cell? ⟨gb162, 0, none⟩ = some (.int .i64 a0_0) := (blk_cell BK162.out 0).trans rfl; have hcz169_1 : w168.cell? ⟨gb162, 1, none⟩ = some (.slice A0_1 l0_1.length c0_1) := (blk_cell BK162.out 1).trans rfl; have hfz169_0 := blk_frozen BK162.out 0; have hfz169_1 := blk_frozen BK162.out 1) | (go_at_call 15; (with_reducible refine (Rx.gamplaw04_few.calls a0_0 _ _ l0_1 t163 t164 _ ?side1 ?side2 A2.out).mono ?_); (case side1 => exact cl (Kd.C_below HR0_1.out HB.out)); (case side2 => exact HC0_1.out); rintro e w170 ⟨v165, rfl, ho0, hb⟩; have n0_ := Aside0.mk (Kd.R_lower ho0 (below_size (bl HB))); have n1_ := Aside0.mk (blk_below (g := gb162) (o := .cells #[.int .i64 a0_0, .slice A0_1 l0_1.length c0_1] 24 (0, 0)) (bk BK162) hb); have n2_ := Aside0.mk (below_step (bl HB) hb); clear BK162; clear HB; have HO166 := n0_; have BK162 := n1_; have HB := n2_; clear n0_ n1_ n2_; (try clear hb); (try clear hb2); (try clear hk); (try clear hi); (try clear ho0)) | ((with_reducible refine gate_dst (N := 3) rfl ?_); (try (refine gate_guard (by rfl) ?_; dsimp only)); refine box_event ?hg (N := 3) ?hd (cs := #[.int .i64 0, .slice none 0 0]) (t := 24) ?hr ?_; (case hd => rfl); (case hg => rfl); (case hr => first | (go_simp; done) | (go_simp; rfl)); intro gb167 hg w171 hbox hb; have n0_ := Aside0.mk (Kd.R_below (rl HO166) hb); have n1_ := Aside0.mk (blk_below (g := gb162) (o := .cells #[.int .i64 a0_0, .slice A0_1 l0_1.length c0_1] 24 (0, 0)) (bk BK162) hb); have n2_ := Aside0.mk (below_step (bl HB) hb); have n3_ := Aside0.mk (hbox); have n4_ := Aside0.mk ((by rw [hg]; exact (below_size (bl HB)) : w.heap.size ≤ gb167)); have n5_ := Aside0.mk ((by rw [hg]; exact (below_size (bl HB)) : w.heap.size ≤ gb167)); have n6_ := Aside0.mk ((by rw [hg]; exact Nat.ne_of_lt (blk_lt (g := gb162) (o := .cells #[.int .i64 a0_0, .slice A0_1 l0_1.length c0_1] 24 (0, 0)) (bk BK162)) : gb162 ≠ gb167)); have n7_ := Aside0.mk ((by rw [hg]; exact Nat.ne_of_gt (blk_lt (g := gb162) (o := .cells #[.int .i64 a0_0, .slice A0_1 l0_1.length c0_1] 24 (0, 0)) (bk BK162)) : gb167 ≠ gb162)); clear HO166; clear BK162; clear HB; have HO166 := n0_; have BK162 := n1_; have HB := n2_; have BK167 := n3_; have GW167 := n4_; have GE167 := n5_; have NB162_167 := n6_; have NB167_162 := n7_; clear n0_ n1_ n2_ n3_ n4_ n5_ n6_ n7_; clear hb hbox hg; have hnb172 := NB167_162.out; have hnc172 := NB162_167.out; have hcz173_0 : w171.cell? ⟨gb167, 0, none⟩ = some (.int .i64 0) := (blk_cell BK167.out 0).trans rfl; have hcz173_1 : w171.cell? ⟨gb167, 1, none⟩ = some (.slice none 0 0) := (blk_cell BK167.out 1).trans rfl; have hfz173_0 := blk_frozen BK167.out 0; have hfz173_1 := blk_frozen BK167.out 1; obtain ⟨Ao174, co174, eo174⟩ := Kd.R_slice HO166.out; subst eo174) | (go_at_call 24; (with_reducible refine (Rx.rib_Order.calls k t163 _ _ t164 t168 t169 _ ?side1 ?side2 A3.out).mono ?_); (case side1 => refine (Kd.R_reads' (e := 52) (base := w.heap.size) (ok := fun k_ => True) (n := t164.length) (c := co174) ?_).2.2; exact (by (with_reducible repeat (first | apply Kd.R_alloc | apply Kd.R_drewN | apply Kd.R_drew)); exact (Kd.R_mono (Kd.R_far (p := ⟨gb167, 1, none⟩) (Kd.R_far (p := ⟨gb167, 0, none⟩) (Kd.R_types HO166.out BK167.out (by decide)) (fun _ hk => hk.2) (.int .i64 t163)) (fun _ hk => hk.2) (.slice Ao174 t164.length co174)) (fun _ h_ => h_.1)))); (case side2 => exact (Kd.R_reads' HO166.out).2.1); rintro e w175 ⟨v170, rfl, ho0, hb⟩; have n0_ := Aside0.mk (Kd.R_below (by (with_reducible repeat (first | apply Kd.R_alloc | apply Kd.R_drewN | apply Kd.R_drew)); exact (Kd.R_mono (Kd.R_far (p := ⟨gb167, 1, none⟩) (Kd.R_far (p := ⟨gb167, 0, none⟩) (Kd.R_types HO166.out BK167.out (by decide)) (fun _ hk => hk.2) (.int .i64 t163)) (fun _ hk => hk.2) (.slice Ao174 t164.length co174)) (fun _ h_ => h_.1))) hb); have n1_ := Aside0.mk (Kd.R_lower ho0 (below_size (bl HB))); have n2_ := Aside0.mk (blk_below (g := gb162) (o := .cells #[.int .i64 a0_0, .slice A0_1 l0_1.length c0_1] 24 (0, 0)) (by (with_reducible repeat (first | refine blk_drewN ?_ _ | refine blk_drew ?_ | refine blk_alloc ?_ _)); refine blk_far ?_ NB162_167.out _; (with_reducible repeat (first | refine blk_drewN ?_ _ | refine blk_drew ?_ | refine blk_alloc ?_ _)); refine blk_far ?_ NB162_167.out _; (with_reducible repeat (first | refine blk_drewN ?_ _ | refine blk_drew ?_ | refine blk_alloc ?_ _)); exact BK162.out) hb); have n3_ := Aside0.mk (blk_below (g := gb167) (o := .cells #[.int .i64 t163, .slice Ao174 t164.length co174] 24 (0, 0)) (by (with_reducible repeat (first | refine blk_drewN ?_ _ | refine blk_drew ?_ | refine blk_alloc ?_ _)); refine blk_put (cs := #[.int .i64 t163, .slice none 0 0]) ?_ 1 _ rfl; (with_reducible repeat (first | refine blk_drewN ?_ _ | refine blk_drew ?_ | refine blk_alloc ?_ _)); refine blk_put (cs := #[.int .i64 0, .slice none 0 0]) ?_ 0 _ rfl; (with_reducible repeat (first | refine blk_drewN ?_ _ | refine blk_drew ?_ | refine blk_alloc ?_ _)); exact BK167.out) hb); have n4_ := Aside0.mk (below_step (bl HB) hb); clear HO166; clear BK162; clear BK167; clear HB; have HO166 := n0_; have HO171 := n1_; have BK162 := n2_; have BK167 := n3_; have HB := n4_; clear n0_ n1_ n2_ n3_ n4_; (try clear hb); (try clear hb2); (try clear hk); (try clear hi); (try clear ho0); have hcz176_0 : w175.cell? ⟨gb167, 0, none⟩ = some (.int .i64 t163) := (blk_cell BK167.out 0).trans rfl; have hcz176_1 : w175.cell? ⟨gb167, 1, none⟩ = some (.slice Ao174 t164.length co174) := (blk_cell BK167.out 1).trans rfl; have hfz176_0 := blk_frozen BK167.out 0; have hfz176_1 := blk_frozen BK167.out 1) | (go_at_call 25; (with_reducible refine (rib_Ring.calls k t163 _ _ t164 t172 t173 _ ?side1 ?side2 A4.out).mono ?_); (case side1 => exact cl ((Kd.R_reads' HO166.out).2.2)); (case side2 => exact (Kd.R_reads' HO166.out).2.1); rintro e w177 ⟨v174, rfl, ho0, hb⟩; have n0_ := Aside0.mk (Kd.R_below (rl HO166) hb); have n1_ := Aside0.mk (Kd.R_elder' (rl HO171) (Kd.R_base ho0) hb); have n2_ := Aside0.mk (Kd.R_lower (Kd.R_new' ho0 (Kd.R_lt (rl HO171))) (below_size (bl HB))); have n3_ := Aside0.mk (blk_below (g := gb162) (o := .cells #[.int .i64 a0_0, .slice A0_1 l0_1.length c0_1] 24 (0, 0)) (bk BK162) hb); have n4_ := Aside0.mk (blk_below (g := gb167) (o := .cells #[.int .i64 t163, .slice Ao174 t164.length co174] 24 (0, 0)) (bk BK167) hb); have n5_ := Aside0.mk (below_step (bl HB) hb); clear HO166; clear HO171; clear BK162; clear BK167; clear HB; have HO166 := n0_; have HO171 := n1_; have HO175 := n2_; have BK162 := n3_; have BK167 := n4_; have HB := n5_; clear n0_ n1_ n2_ n3_ n4_ n5_; (try clear hb); (try clear hb2); (try clear hk); (try clear hi); (try clear ho0); have hcz178_0 : w177.cell? ⟨gb167, 0, none⟩ = some (.int .i64 t163) := (blk_cell BK167.out 0).trans rfl; have hcz178_1 : w177.cell? ⟨gb167, 1, none⟩ = some (.slice Ao174 t164.length co174) := (blk_cell BK167.out 1).trans rfl; have hfz178_0 := blk_frozen BK167.out 0; have hfz178_1 := blk_frozen BK167.out 1) | (go_at_call 26; (with_reducible refine (gamplaw04_chordal.calls k t163 _ _ t164 t176 _ ?side1 ?side2 A5.out).mono ?_); (case side1 => exact cl ((Kd.R_reads' HO166.out).2.2)); (case side2 => exact (Kd.R_reads' HO166.out).2.1); rintro e w179 ⟨rfl, hb⟩; have n0_ := Aside0.mk (Kd.R_below (rl HO166) hb); have n1_ := Aside0.mk (Kd.R_below (rl HO171) hb); have n2_ := Aside0.mk (Kd.R_below (rl HO175) hb); have n3_ := Aside0.mk (blk_below (g := gb162) (o := .cells #[.int .i64 a0_0, .slice A0_1 l0_1.length c0_1] 24 (0, 0)) (bk BK162) hb); have n4_ := Aside0.mk (blk_below (g := gb167) (o := .cells #[.int .i64 t163, .slice Ao174 t164.length co174] 24 (0, 0)) (bk BK167) hb); have n5_ := Aside0.mk (below_step (bl HB) hb); clear HO166; clear HO171; clear HO175; clear BK162; clear BK167; clear HB; have HO166 := n0_; have HO171 := n1_; have HO175 := n2_; have BK162 := n3_; have BK167 := n4_; have HB := n5_; clear n0_ n1_ n2_ n3_ n4_ n5_; (try clear hb); (try clear hb2); (try clear hk); (try clear hi))))
   (try simp only [Act.put, List.setIfInBounds_toArray, List.set_cons_zero, List.set_cons_succ])
   go_cut [90] (fun v90 wc => ∃ (kq : Nat) (x90_166 : Bool), v90 = .bool x90_166 ∧ Aside0 (gamplaw04_RibOrders.j0 kq t172 x90_166 t163 t164 = some r) ∧ Aside0 (kq ≤ k) ∧ Aside0 (Kd.R (Kd.int .i64) 3 wc w.heap.size (fun _ => True) v174 t172) ∧ Aside0 (Kd.R k52 52 wc w.heap.size (fun _ => True) (.slice Ao174 t164.length co174) t164) ∧ Aside0 (wc.heap[gb162]? = some (.cells #[.int .i64 a0_0, (.slice A0_1 l0_1.length c0_1)] 24 (0, 0))) ∧ Aside0 (wc.heap[gb167]? = some (.cells #[.int .i64 t163, (.slice Ao174 t164.length co174)] 24 (0, 0))) ∧ Aside0 (Below w.heap.size w wc))
   case first =>
    have H := HC167.out
    clear HC167
    by_cases c180 : (t168.length : Int) = 0
    ·rw [if_pos c180] at H
     have c180b0 : ((t168.length : Int) == 0) = true := beq_iff_eq.mpr c180
     have c180b1 : ((t168.length : Int) != 0) = false := bne_eq_false_iff_eq.mpr c180
     clear c180
     (first | rw [c180b0] | (simp only [i64_w, i32_w]; rw [c180b0]) | skip)
     by_cases c181 : t169 = 5
     ·rw [if_pos c181] at H
      have c181b0 : (t169 == 5) = true := beq_iff_eq.mpr c181
      have c181b1 : (t169 != 5) = false := bne_eq_false_iff_eq.mpr c181
      clear c181
      by_cases c182 : t173 = 0
      ·rw [if_pos c182] at H
       have c182b0 : (t173 == 0) = true := beq_iff_eq.mpr c182
       have c182b1 : (t173 != 0) = false := bne_eq_false_iff_eq.mpr c182
       clear c182
       replace H := Option.bind_eq_some_iff.mp H
       obtain ⟨t181, A1830, H⟩ := H
       replace H : (gamplaw04_RibOrders.j0 k t172 (!t181) t163 t164) = some r := H
       have A183 := Aside0.mk A1830
       clear A1830
       have H' := Aside0.mk H
       clear H
       obtain ⟨Ao184, co184, eo184⟩ := Kd.R_slice HO171.out
       subst eo184
       go_wp2_with (first | (go_at_call 18; (with_reducible refine (Rx.gamplaw04_lives.calls k  t181 _ A183.out).mono ?_); rintro e w185 ⟨rfl, hb⟩; have n0_ := Aside0.mk (Kd.R_below (rl HO166) hb); have n1_ := Aside0.mk (Kd.R_below (rl HO171) hb); have n2_ := Aside0.mk (Kd.R_below (rl HO175) hb); have n3_ := Aside0.mk (blk_below (g := gb162) (o := .cells #[.int .i64 a0_0, .slice A0_1 l0_1.length c0_1] 24 (0, 0)) (bk BK162) hb); have n4_ := Aside0.mk (blk_below (g := gb167) (o := .cells #[.int .i64 t163, .slice Ao174 t164.length co174] 24 (0, 0)) (bk BK167) hb); have n5_ := Aside0.mk (below_step (bl HB) hb); clear HO166; clear HO171; clear HO175; clear BK162; clear BK167; clear HB; have HO166 := n0_; have HO171 := n1_; have HO175 := n2_; have BK162 := n3_; have BK167 := n4_; have HB := n5_; clear n0_ n1_ n2_ n3_ n4_ n5_; (try clear hb); (try clear hb2); (try clear hk); (try clear hi)))
       repeat (go_quiet (first | (go_at_call 18; (with_reducible refine (Rx.gamplaw04_lives.calls k  t181 _ A183.out).mono ?_); rintro e w185 ⟨rfl, hb⟩; have n0_ := Aside0.mk (Kd.R_below (rl HO166) hb); have n1_ := Aside0.mk (Kd.R_below (rl HO171) hb); have n2_ := Aside0.mk (Kd.R_below (rl HO175) hb); have n3_ := Aside0.mk (blk_below (g := gb162) (o := .cells #[.int .i64 a0_0, .slice A0_1 l0_1.length c0_1] 24 (0, 0)) (bk BK162) hb); have n4_ := Aside0.mk (blk_below (g := gb167) (o := .cells #[.int .i64 t163, .slice Ao174 t164.length co174] 24 (0, 0)) (bk BK167) hb); have n5_ := Aside0.mk (below_step (bl HB) hb); clear HO166; clear HO171; clear HO175; clear BK162; clear BK167; clear HB; have HO166 := n0_; have HO171 := n1_; have HO175 := n2_; have BK162 := n3_; have BK167 := n4_; have HB := n5_; clear n0_ n1_ n2_ n3_ n4_ n5_; (try clear hb); (try clear hb2); (try clear hk); (try clear hi))); try go_wp2_with (first | (go_at_call 18; (with_reducible refine (Rx.gamplaw04_lives.calls k  t181 _ A183.out).mono ?_); rintro e w185 ⟨rfl, hb⟩; have n0_ := Aside0.mk (Kd.R_below (rl HO166) hb); have n1_ := Aside0.mk (Kd.R_below (rl HO171) hb); have n2_ := Aside0.mk (Kd.R_below (rl HO175) hb); have n3_ := Aside0.mk (blk_below (g := gb162) (o := .cells #[.int .i64 a0_0, .slice A0_1 l0_1.length c0_1] 24 (0, 0)) (bk BK162) hb); have n4_ := Aside0.mk (blk_below (g := gb167) (o := .cells #[.int .i64 t163, .slice Ao174 t164.length co174] 24 (0, 0)) (bk BK167) hb); have n5_ := Aside0.mk (below_step (bl HB) hb); clear HO166; clear HO171; clear HO175; clear BK162; clear BK167; clear HB; have HO166 := n0_; have HO171 := n1_; have HO175 := n2_; have BK162 := n3_; have BK167 := n4_; have HB := n5_; clear n0_ n1_ n2_ n3_ n4_ n5_; (try clear hb); (try clear hb2); (try clear hk); (try clear hi))))
       go_meet
       case rel => exact ⟨_, (!t181), (by first | rfl | (simp; done) | (simp [*]; done)), H', ⟨by first | omega | exact Nat.le_refl _⟩, ⟨by (with_reducible repeat (first | apply Kd.R_alloc | apply Kd.R_drewN | apply Kd.R_drew)); exact Kd.R_mono HO175.out (fun _ hk => trivial)⟩, ⟨rl HO166⟩, ⟨bk BK162⟩, ⟨bk BK167⟩, ⟨bl HB⟩⟩
      ·rw [if_neg c182] at H
       have c182b0 : (t173 == 0) = false := beq_eq_false_iff_ne.mpr c182
       have c182b1 : (t173 != 0) = true := bne_iff_ne.mpr c182
       have H' := Aside0.mk H
       clear H
       obtain ⟨Ao186, co186, eo186⟩ := Kd.R_slice HO171.out
       subst eo186
       go_wp2
       repeat (go_quiet (fail); try go_wp2)
       go_meet
       case rel => exact ⟨_, (true), (by first | rfl | (simp; done) | (simp [*]; done)), H', ⟨by first | omega | exact Nat.le_refl _⟩, ⟨by (with_reducible repeat (first | apply Kd.R_alloc | apply Kd.R_drewN | apply Kd.R_drew)); exact Kd.R_mono HO175.out (fun _ hk => trivial)⟩, ⟨rl HO166⟩, ⟨bk BK162⟩, ⟨bk BK167⟩, ⟨bl HB⟩⟩
     ·rw [if_neg c181] at H
      have c181b0 : (t169 == 5) = false := beq_eq_false_iff_ne.mpr c181
      have c181b1 : (t169 != 5) = true := bne_iff_ne.mpr c181
      have H' := Aside0.mk H
      clear H
      obtain ⟨Ao187, co187, eo187⟩ := Kd.R_slice HO171.out
      subst eo187
      go_wp2
      repeat (go_quiet (fail); try go_wp2)
      go_meet
      case rel => exact ⟨_, (true), (by first | rfl | (simp; done) | (simp [*]; done)), H', ⟨by first | omega | exact Nat.le_refl _⟩, ⟨by (with_reducible repeat (first | apply Kd.R_alloc | apply Kd.R_drewN | apply Kd.R_drew)); exact Kd.R_mono HO175.out (fun _ hk => trivial)⟩, ⟨rl HO166⟩, ⟨bk BK162⟩, ⟨bk BK167⟩, ⟨bl HB⟩⟩
    ·rw [if_neg c180] at H
     have c180b0 : ((t168.length : Int) == 0) = false := beq_eq_false_iff_ne.mpr c180
     have c180b1 : ((t168.length : Int) != 0) = true := bne_iff_ne.mpr c180
     have c180b2 : ¬ (t168 = []) := fun h_ => c180 (by rw [h_]; rfl)
     (first | rw [c180b0] | (simp only [i64_w, i32_w]; rw [c180b0]) | skip)
     have H' := Aside0.mk H
     clear H
     obtain ⟨Ao188, co188, eo188⟩ := Kd.R_slice HO171.out
     subst eo188
     go_wp2
     repeat (go_quiet (fail); try go_wp2)
     go_meet
     case rel => exact ⟨_, (true), (by first | rfl | (simp; done) | (simp [*]; done)), H', ⟨by first | omega | exact Nat.le_refl _⟩, ⟨by (with_reducible repeat (first | apply Kd.R_alloc | apply Kd.R_drewN | apply Kd.R_drew)); exact Kd.R_mono HO175.out (fun _ hk => trivial)⟩, ⟨rl HO166⟩, ⟨bk BK162⟩, ⟨bk BK167⟩, ⟨bl HB⟩⟩
   case rest =>
    clear HC167
    try clear c1
    try clear p2
    try clear c3
    try clear c4
    try clear c5
    try clear c6
    try clear c6b0
    try clear c6b1
    try clear p6
    try clear c7
    try clear c7b0
    try clear c7b1
    try clear c8
    try clear c8b0
    try clear c8b1
    try clear c9
    try clear c9b0
    try clear c9b1
    try clear c11
    try clear c13
    try clear c14
    try clear c15
    try clear c17
    try clear c18
    try clear c30
    try clear c44
    try clear c58
    try clear p64
    try clear c68
    try clear c68b0
    try clear c68b1
    try clear c69
    try clear c69b0
    try clear c69b1
    try clear c71
    try clear c73
    try clear c74
    try clear c74b0
    try clear c74b1
    try clear c74b2
    try clear c75
    try clear c75b0
    try clear c75b1
    try clear c81
    try clear c98
    try clear c114
    try clear c130
    try clear c145
    try clear c159
    try clear c172
    try clear c180
    try clear c180b0
    try clear c180b1
    try clear c180b2
    try clear c181
    try clear c181b0
    try clear c181b1
    try clear c182
    try clear c182b0
    try clear c182b1
    try clear hcz102_0
    try clear hcz102_1
    try clear hcz104_0
    try clear hcz104_1
    try clear hcz106_0
    try clear hcz106_1
    try clear hcz111_0
    try clear hcz111_1
    try clear hcz115_0
    try clear hcz115_1
    try clear hcz118_0
    try clear hcz118_1
    try clear hcz120_0
    try clear hcz120_1
    try clear hcz122_0
    try clear hcz122_1
    try clear hcz127_0
    try clear hcz127_1
    try clear hcz12_0
    try clear hcz12_1
    try clear hcz131_0
    try clear hcz131_1
    try clear hcz134_0
    try clear hcz134_1
    try clear hcz136_0
    try clear hcz136_1
    try clear hcz138_0
    try clear hcz138_1
    try clear hcz142_0
    try clear hcz142_1
    try clear hcz146_0
    try clear hcz146_1
    try clear hcz149_0
    try clear hcz149_1
    try clear hcz151_0
    try clear hcz151_1
    try clear hcz153_0
    try clear hcz153_1
    try clear hcz156_0
    try clear hcz156_1
    try clear hcz160_0
    try clear hcz160_1
    try clear hcz163_0
    try clear hcz163_1
    try clear hcz165_0
    try clear hcz165_1
    try clear hcz169_0
    try clear hcz169_1
    try clear hcz16_0
    try clear hcz16_1
    try clear hcz173_0
    try clear hcz173_1
    try clear hcz176_0
    try clear hcz176_1
    try clear hcz178_0
    try clear hcz178_1
    try clear hcz19_0
    try clear hcz19_1
    try clear hcz21_0
    try clear hcz21_1
    try clear hcz27_0
    try clear hcz27_1
    try clear hcz31_0
    try clear hcz31_1
    try clear hcz34_0
    try clear hcz34_1
    try clear hcz36_0
    try clear hcz36_1
    try clear hcz41_0
    try clear hcz41_1
    try clear hcz45_0
    try clear hcz45_1
    try clear hcz48_0
    try clear hcz48_1
    try clear hcz50_0
    try clear hcz50_1
    try clear hcz55_0
    try clear hcz55_1
    try clear hcz59_0
    try clear hcz59_1
    try clear hcz62_0
    try clear hcz62_1
    try clear hcz64_0
    try clear hcz64_1
    try clear hcz78_0
    try clear hcz78_1
    try clear hcz82_0
    try clear hcz82_1
    try clear hcz85_0
    try clear hcz85_1
    try clear hcz87_0
    try clear hcz87_1
    try clear hcz89_0
    try clear hcz89_1
    try clear hcz95_0
    try clear hcz95_1
    try clear hcz99_0
    try clear hcz99_1
    try clear hfz102_0
    try clear hfz102_1
    try clear hfz104_0
    try clear hfz104_1
    try clear hfz106_0
    try clear hfz106_1
    try clear hfz111_0
    try clear hfz111_1
    try clear hfz115_0
    try clear hfz115_1
    try clear hfz118_0
    try clear hfz118_1
    try clear hfz120_0
    try clear hfz120_1
    try clear hfz122_0
    try clear hfz122_1
    try clear hfz127_0
    try clear hfz127_1
    try clear hfz12_0
    try clear hfz12_1
    try clear hfz131_0
    try clear hfz131_1
    try clear hfz134_0
    try clear hfz134_1
    try clear hfz136_0
    try clear hfz136_1
    try clear hfz138_0
    try clear hfz138_1
    try clear hfz142_0
    try clear hfz142_1
    try clear hfz146_0
    try clear hfz146_1
    try clear hfz149_0
    try clear hfz149_1
    try clear hfz151_0
    try clear hfz151_1
    try clear hfz153_0
    try clear hfz153_1
    try clear hfz156_0
    try clear hfz156_1
    try clear hfz160_0
    try clear hfz160_1
    try clear hfz163_0
    try clear hfz163_1
    try clear hfz165_0
    try clear hfz165_1
    try clear hfz169_0
    try clear hfz169_1
    try clear hfz16_0
    try clear hfz16_1
    try clear hfz173_0
    try clear hfz173_1
    try clear hfz176_0
    try clear hfz176_1
    try clear hfz178_0
    try clear hfz178_1
    try clear hfz19_0
    try clear hfz19_1
    try clear hfz21_0
    try clear hfz21_1
    try clear hfz27_0
    try clear hfz27_1
    try clear hfz31_0
    try clear hfz31_1
    try clear hfz34_0
    try clear hfz34_1
    try clear hfz36_0
    try clear hfz36_1
    try clear hfz41_0
    try clear hfz41_1
    try clear hfz45_0
    try clear hfz45_1
    try clear hfz48_0
    try clear hfz48_1
    try clear hfz50_0
    try clear hfz50_1
    try clear hfz55_0
    try clear hfz55_1
    try clear hfz59_0
    try clear hfz59_1
    try clear hfz62_0
    try clear hfz62_1
    try clear hfz64_0
    try clear hfz64_1
    try clear hfz78_0
    try clear hfz78_1
    try clear hfz82_0
    try clear hfz82_1
    try clear hfz85_0
    try clear hfz85_1
    try clear hfz87_0
    try clear hfz87_1
    try clear hfz89_0
    try clear hfz89_1
    try clear hfz95_0
    try clear hfz95_1
    try clear hfz99_0
    try clear hfz99_1
    obtain ⟨kq, x90_166, rfl, HA, HJ166, HO_6, HO_168001, BK162, BK167, HB⟩ := hcut
    cases kq with
    | zero => exact absurd HA.out (by simp [gamplaw04_RibOrders.j0])
    | succ kj166 =>
     have H := HA.out
     clear HA
     simp only [gamplaw04_RibOrders.j0] at H
     by_cases c189 : x90_166 = true
     ·subst c189
      have H1 : (some false) = some r := by rw [if_pos rfl] at H; exact H
      clear H
      have H := H1
      clear H1
      rw [hrt] at H
      cases H
     ·replace c189 := Bool.eq_false_iff.mpr c189
      subst c189
      have H1 : (gamplaw04_RibOrders.l0 kj166 t172 0 t163 t164) = some r := by rw [if_neg (show ¬ (false = true) by decide)] at H; exact H
      clear H
      have H := H1
      clear H1
      have H' := Aside0.mk H
      clear H
      go_wp2
      repeat (go_quiet (fail); try go_wp2)
      go_loopg [8] kj166 (fun kq v8 w' => ∃ (x8_2 : Int), v8 = .int .i64 x8_2 ∧ Aside0 (gamplaw04_RibOrders.l0 kq t172 x8_2 t163 t164 = some r) ∧ Aside0 (kq ≤ kj166) ∧ Aside0 (Kd.R (Kd.int .i64) 3 w' w.heap.size (fun _ => True) v174 t172) ∧ Aside0 (Kd.R k52 52 w' w.heap.size (fun _ => True) (.slice Ao174 t164.length co174) t164) ∧ Aside0 (w'.heap[gb162]? = some (.cells #[.int .i64 a0_0, (.slice A0_1 l0_1.length c0_1)] 24 (0, 0))) ∧ Aside0 (w'.heap[gb167]? = some (.cells #[.int .i64 t163, (.slice Ao174 t164.length co174)] 24 (0, 0))) ∧ Aside0 (Below w.heap.size w w'))
      case atStart => exact ⟨(0), (by first | rfl | (simp; done) | (simp [*]; done)), H', ⟨Nat.le_refl _⟩, ⟨rl HO_6⟩, ⟨rl HO_168001⟩, ⟨bk BK162⟩, ⟨bk BK167⟩, ⟨bl HB⟩⟩
      case round =>
       clear H'
       try clear c1
       try clear p2
       try clear c3
       try clear c4
       try clear c5
       try clear c6
       try clear c6b0
       try clear c6b1
       try clear p6
       try clear c7
       try clear c7b0
       try clear c7b1
       try clear c8
       try clear c8b0
       try clear c8b1
       try clear c9
       try clear c9b0
       try clear c9b1
       try clear c11
       try clear c13
       try clear c14
       try clear c15
       try clear c17
       try clear c18
       try clear c30
       try clear c44
       try clear c58
       try clear p64
       try clear c68
       try clear c68b0
       try clear c68b1
       try clear c69
       try clear c69b0
       try clear c69b1
       try clear c71
       try clear c73
       try clear c74
       try clear c74b0
       try clear c74b1
       try clear c74b2
       try clear c75
       try clear c75b0
       try clear c75b1
       try clear c81
       try clear c98
       try clear c114
       try clear c130
       try clear c145
       try clear c159
       try clear c172
       try clear c180
       try clear c180b0
       try clear c180b1
       try clear c180b2
       try clear c181
       try clear c181b0
       try clear c181b1
       try clear c182
       try clear c182b0
       try clear c182b1
       try clear c189
       try clear hcz102_0
       try clear hcz102_1
       try clear hcz104_0
       try clear hcz104_1
       try clear hcz106_0
       try clear hcz106_1
       try clear hcz111_0
       try clear hcz111_1
       try clear hcz115_0
       try clear hcz115_1
       try clear hcz118_0
       try clear hcz118_1
       try clear hcz120_0
       try clear hcz120_1
       try clear hcz122_0
       try clear hcz122_1
       try clear hcz127_0
       try clear hcz127_1
       try clear hcz12_0
       try clear hcz12_1
       try clear hcz131_0
       try clear hcz131_1
       try clear hcz134_0
       try clear hcz134_1
       try clear hcz136_0
       try clear hcz136_1
       try clear hcz138_0
       try clear hcz138_1
       try clear hcz142_0
       try clear hcz142_1
       try clear hcz146_0
       try clear hcz146_1
       try clear hcz149_0
       try clear hcz149_1
       try clear hcz151_0
       try clear hcz151_1
       try clear hcz153_0
       try clear hcz153_1
       try clear hcz156_0
       try clear hcz156_1
       try clear hcz160_0
       try clear hcz160_1
       try clear hcz163_0
       try clear hcz163_1
       try clear hcz165_0
       try clear hcz165_1
       try clear hcz169_0
       try clear hcz169_1
       try clear hcz16_0
       try clear hcz16_1
       try clear hcz173_0
       try clear hcz173_1
       try clear hcz176_0
       try clear hcz176_1
       try clear hcz178_0
       try clear hcz178_1
       try clear hcz19_0
       try clear hcz19_1
       try clear hcz21_0
       try clear hcz21_1
       try clear hcz27_0
       try clear hcz27_1
       try clear hcz31_0
       try clear hcz31_1
       try clear hcz34_0
       try clear hcz34_1
       try clear hcz36_0
       try clear hcz36_1
       try clear hcz41_0
       try clear hcz41_1
       try clear hcz45_0
       try clear hcz45_1
       try clear hcz48_0
       try clear hcz48_1
       try clear hcz50_0
       try clear hcz50_1
       try clear hcz55_0
       try clear hcz55_1
       try clear hcz59_0
       try clear hcz59_1
       try clear hcz62_0
       try clear hcz62_1
       try clear hcz64_0
       try clear hcz64_1
       try clear hcz78_0
       try clear hcz78_1
       try clear hcz82_0
       try clear hcz82_1
       try clear hcz85_0
       try clear hcz85_1
       try clear hcz87_0
       try clear hcz87_1
       try clear hcz89_0
       try clear hcz89_1
       try clear hcz95_0
       try clear hcz95_1
       try clear hcz99_0
       try clear hcz99_1
       try clear hfz102_0
       try clear hfz102_1
       try clear hfz104_0
       try clear hfz104_1
       try clear hfz106_0
       try clear hfz106_1
       try clear hfz111_0
       try clear hfz111_1
       try clear hfz115_0
       try clear hfz115_1
       try clear hfz118_0
       try clear hfz118_1
       try clear hfz120_0
       try clear hfz120_1
       try clear hfz122_0
       try clear hfz122_1
       try clear hfz127_0
       try clear hfz127_1
       try clear hfz12_0
       try clear hfz12_1
       try clear hfz131_0
       try clear hfz131_1
       try clear hfz134_0
       try clear hfz134_1
       try clear hfz136_0
       try clear hfz136_1
       try clear hfz138_0
       try clear hfz138_1
       try clear hfz142_0
       try clear hfz142_1
       try clear hfz146_0
       try clear hfz146_1
       try clear hfz149_0
       try clear hfz149_1
       try clear hfz151_0
       try clear hfz151_1
       try clear hfz153_0
       try clear hfz153_1
       try clear hfz156_0
       try clear hfz156_1
       try clear hfz160_0
       try clear hfz160_1
       try clear hfz163_0
       try clear hfz163_1
       try clear hfz165_0
       try clear hfz165_1
       try clear hfz169_0
       try clear hfz169_1
       try clear hfz16_0
       try clear hfz16_1
       try clear hfz173_0
       try clear hfz173_1
       try clear hfz176_0
       try clear hfz176_1
       try clear hfz178_0
       try clear hfz178_1
       try clear hfz19_0
       try clear hfz19_1
       try clear hfz21_0
       try clear hfz21_1
       try clear hfz27_0
       try clear hfz27_1
       try clear hfz31_0
       try clear hfz31_1
       try clear hfz34_0
       try clear hfz34_1
       try clear hfz36_0
       try clear hfz36_1
       try clear hfz41_0
       try clear hfz41_1
       try clear hfz45_0
       try clear hfz45_1
       try clear hfz48_0
       try clear hfz48_1
       try clear hfz50_0
       try clear hfz50_1
       try clear hfz55_0
       try clear hfz55_1
       try clear hfz59_0
       try clear hfz59_1
       try clear hfz62_0
       try clear hfz62_1
       try clear hfz64_0
       try clear hfz64_1
       try clear hfz78_0
       try clear hfz78_1
       try clear hfz82_0
       try clear hfz82_1
       try clear hfz85_0
       try clear hfz85_1
       try clear hfz87_0
       try clear hfz87_1
       try clear hfz89_0
       try clear hfz89_1
       try clear hfz95_0
       try clear hfz95_1
       try clear hfz99_0
       try clear hfz99_1
       try clear p2
       try clear p6
       try clear p64
       obtain ⟨x8_2, rfl, HA, HK2, HO_6, HO_168001, BK162, BK167, HB⟩ := hrel
       cases gk with
       | zero => exact absurd HA.out (by simp [gamplaw04_RibOrders.l0])
       | succ k2 =>
        have H := HA.out
        clear HA
        simp only [gamplaw04_RibOrders.l0] at H
        by_cases c190 : x8_2 < (t172.length : Int)
        ·rw [if_pos c190] at H
         have c190b0 : decide (x8_2 < (t172.length : Int)) = true := decide_eq_true c190
         clear c190
         by_cases c191 : 0 ≤ x8_2
         ·rw [if_pos c191] at H
          have c191b0 : decide (0 ≤ x8_2) = true := decide_eq_true c191
          clear c191
          by_cases c192 : (rd t172 x8_2) < 0
          ·rw [if_pos c192] at H
           have c192b0 : decide ((rd t172 x8_2) < 0) = true := decide_eq_true c192
           clear c192
           rw [hrt] at H
           cases H
          ·rw [if_neg c192] at H
           have c192b0 : decide ((rd t172 x8_2) < 0) = false := decide_eq_false c192
           clear c192
           by_cases c194 : (rd t172 x8_2) ≥ t163
           ·rw [if_pos c194] at H
            have c194b0 : decide (t163 ≤ (rd t172 x8_2)) = true := decide_eq_true c194
            clear c194
            rw [hrt] at H
            cases H
           ·rw [if_neg c194] at H
            have c194b0 : decide (t163 ≤ (rd t172 x8_2)) = false := decide_eq_false c194
            clear c194
            have H' := Aside0.mk H
            clear H
            obtain ⟨Ao198, co198, eo198⟩ := Kd.R_slice HO_6.out
            subst eo198
            have p182 : 0 ≤ (x8_2 : Int) := ofd
            have q182 : x8_2 < (t172.length : Int) := ofd
            obtain ⟨ad182, e182, hx182_0⟩ := Kd.at_int (Kd.R_reads' HO_6.out).2.2 x8_2 p182 q182
            cases e182
            replace p182 := eq_true p182
            replace q182 := eq_true q182
            have p183 : 0 ≤ (x8_2 : Int) := ofd
            have q183 : x8_2 < (t172.length : Int) := ofd
            obtain ⟨ad183, e183, hx183_0⟩ := Kd.at_int (Kd.R_reads' HO_6.out).2.2 x8_2 p183 q183
            obtain rfl : ad182 = ad183 := (by injection e183)
            replace p183 := eq_true p183
            replace q183 := eq_true q183
            have hnb199 := NB167_162.out
            have hnc199 := NB162_167.out
            have hcz200_0 : wr.cell? ⟨gb167, 0, none⟩ = some (.int .i64 t163) := (blk_cell BK167.out 0).trans rfl
            have hcz200_1 : wr.cell? ⟨gb167, 1, none⟩ = some (.slice Ao174 t164.length co174) := (blk_cell BK167.out 1).trans rfl
            have hfz200_0 := blk_frozen BK167.out 0
            have hfz200_1 := blk_frozen BK167.out 1
            go_wp2
            repeat (go_quiet (fail); try go_wp2)
            go_roundg k2
            case measure => have := HJ166.out; have := HK2.out; omega
            case rel => exact ⟨(wrap64 (x8_2 + 1)), (by first | rfl | (simp; done) | (simp [*]; done)), H', ⟨by have := HJ166.out; have := HK2.out; omega⟩, ⟨rl HO_6⟩, ⟨rl HO_168001⟩, ⟨bk BK162⟩, ⟨bk BK167⟩, ⟨bl HB⟩⟩
         ·rw [if_neg c191] at H
          exact absurd H (by simp)
        ·rw [if_neg c190] at H
         have c190b0 : decide (x8_2 < (t172.length : Int)) = false := decide_eq_false c190
         clear c190
         replace H := Option.bind_eq_some_iff.mp H
         obtain ⟨t184, A2010, H⟩ := H
         replace H : (some t184) = some r := H
         have A201 := Aside0.mk A2010
         clear A2010
         obtain rfl := Option.some.inj H
         obtain ⟨Ao202, co202, eo202⟩ := Kd.R_slice HO_6.out
         subst eo202
         have hnb203 := NB167_162.out
         have hnc203 := NB162_167.out
         have hcz204_0 : wr.cell? ⟨gb167, 0, none⟩ = some (.int .i64 t163) := (blk_cell BK167.out 0).trans rfl
         have hcz204_1 : wr.cell? ⟨gb167, 1, none⟩ = some (.slice Ao174 t164.length co174) := (blk_cell BK167.out 1).trans rfl
         have hfz204_0 := blk_frozen BK167.out 0
         have hfz204_1 := blk_frozen BK167.out 1
         go_wp2_with (first | (go_at_call 29; (with_reducible refine (Re.gampref04_Ring.calls k2 _ _ t164 _ _ t172 t184 _ ?side1 ?side2 ?side3 ?side4 A201.out).mono ?_); (case side1 => exact cl ((Kd.R_reads' HO_168001.out).2.2)); (case side2 => exact (Kd.R_reads' HO_168001.out).2.1); (case side3 => exact cl ((Kd.R_reads' HO_6.out).2.2)); (case side4 => exact (Kd.R_reads' HO_6.out).2.1); rintro e w205 ⟨rfl, hb⟩; have n0_ := Aside0.mk (Kd.R_below (rl HO_6) hb); have n1_ := Aside0.mk (Kd.R_below (rl HO_168001) hb); have n2_ := Aside0.mk (blk_below (g := gb162) (o := .cells #[.int .i64 a0_0, .slice A0_1 l0_1.length c0_1] 24 (0, 0)) (bk BK162) hb); have n3_ := Aside0.mk (blk_below (g := gb167) (o := .cells #[.int .i64 t163, .slice Ao174 t164.length co174] 24 (0, 0)) (bk BK167) hb); have n4_ := Aside0.mk (below_step (bl HB) hb); clear HO_6; clear HO_168001; clear BK162; clear BK167; clear HB; have HO_6 := n0_; have HO_168001 := n1_; have BK162 := n2_; have BK167 := n3_; have HB := n4_; clear n0_ n1_ n2_ n3_ n4_; (try clear hb); (try clear hb2); (try clear hk); (try clear hi)))
         repeat (go_quiet (first | (go_at_call 29; (with_reducible refine (Re.gampref04_Ring.calls k2 _ _ t164 _ _ t172 t184 _ ?side1 ?side2 ?side3 ?side4 A201.out).mono ?_); (case side1 => exact cl ((Kd.R_reads' HO_168001.out).2.2)); (case side2 => exact (Kd.R_reads' HO_168001.out).2.1); (case side3 => exact cl ((Kd.R_reads' HO_6.out).2.2)); (case side4 => exact (Kd.R_reads' HO_6.out).2.1); rintro e w205 ⟨rfl, hb⟩; have n0_ := Aside0.mk (Kd.R_below (rl HO_6) hb); have n1_ := Aside0.mk (Kd.R_below (rl HO_168001) hb); have n2_ := Aside0.mk (blk_below (g := gb162) (o := .cells #[.int .i64 a0_0, .slice A0_1 l0_1.length c0_1] 24 (0, 0)) (bk BK162) hb); have n3_ := Aside0.mk (blk_below (g := gb167) (o := .cells #[.int .i64 t163, .slice Ao174 t164.length co174] 24 (0, 0)) (bk BK167) hb); have n4_ := Aside0.mk (below_step (bl HB) hb); clear HO_6; clear HO_168001; clear BK162; clear BK167; clear HB; have HO_6 := n0_; have HO_168001 := n1_; have BK162 := n2_; have BK167 := n3_; have HB := n4_; clear n0_ n1_ n2_ n3_ n4_; (try clear hb); (try clear hb2); (try clear hk); (try clear hi))); try go_wp2_with (first | (go_at_call 29; (with_reducible refine (Re.gampref04_Ring.calls k2 _ _ t164 _ _ t172 t184 _ ?side1 ?side2 ?side3 ?side4 A201.out).mono ?_); (case side1 => exact cl ((Kd.R_reads' HO_168001.out).2.2)); (case side2 => exact (Kd.R_reads' HO_168001.out).2.1); (case side3 => exact cl ((Kd.R_reads' HO_6.out).2.2)); (case side4 => exact (Kd.R_reads' HO_6.out).2.1); rintro e w205 ⟨rfl, hb⟩; have n0_ := Aside0.mk (Kd.R_below (rl HO_6) hb); have n1_ := Aside0.mk (Kd.R_below (rl HO_168001) hb); have n2_ := Aside0.mk (blk_below (g := gb162) (o := .cells #[.int .i64 a0_0, .slice A0_1 l0_1.length c0_1] 24 (0, 0)) (bk BK162) hb); have n3_ := Aside0.mk (blk_below (g := gb167) (o := .cells #[.int .i64 t163, .slice Ao174 t164.length co174] 24 (0, 0)) (bk BK167) hb); have n4_ := Aside0.mk (below_step (bl HB) hb); clear HO_6; clear HO_168001; clear BK162; clear BK167; clear HB; have HO_6 := n0_; have HO_168001 := n1_; have BK162 := n2_; have BK167 := n3_; have HB := n4_; clear n0_ n1_ n2_ n3_ n4_; (try clear hb); (try clear hb2); (try clear hk); (try clear hi))))
         go_ret
         exact ⟨by first | rfl | (simp [errW_none, errW_some] <;> rfl) | (simp [*, errW_none, errW_some] <;> rfl), by repeat (first | (with_reducible first | exact HB.out | apply below_alloc | apply pw_below_drewN | apply below_drew1 | refine below_set ?_ GE162.out | refine below_set ?_ GE167.out) | exact HB.out)⟩
end Go.Proofs.Ytdpolfflemocaaa.Rw

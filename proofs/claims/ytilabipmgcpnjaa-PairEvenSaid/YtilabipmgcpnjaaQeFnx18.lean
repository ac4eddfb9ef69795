/- The declarations of Fnx18 that the claim Qe needs. -/
import Derived.Test.YtilabipmgcpnjaaQeFnx0
import Derived.Test.YtilabipmgcpnjaaQeFnx1
import Derived.Test.YtilabipmgcpnjaaQeFnx3
import Derived.Test.YtilabipmgcpnjaaQeFnx4
import Derived.Test.YtilabipmgcpnjaaQeFnx5
import Derived.Test.YtilabipmgcpnjaaQeFnx7
import Derived.Test.YtilabipmgcpnjaaQeFnx9
import Derived.Test.YtilabipmgcpnjaaQeFnx10
namespace Go.Proofs.Ytilabipmgcpnjaa.Fn
open Go.RowKit Go.Proofs.Ytilabipmgcpnjaa.Own Go.Proofs.YtilabipmgcpnjaaW.PrintWords Go.Proofs.YtilabipmgcpnjaaW.PrintLast Go.Proofs.YtilabipmgcpnjaaW.PrintMore
attribute [local go_sem] max2_int min2_int max_two min_two max_three min_three max_four min_four
set_option linter.unusedVariables false
set_option linter.unusedSimpArgs false
mutual
def gamplaw07_PairEven.j0 : Nat → List (List Int) → List Int → List Int → Int → Bool → Option (Bool)
  | 0, _, _, _, _, _ => none
  | k + 1, x5, x6, x8, x9, x67 => if x67 = true then (some false) else ((gampref07_Parties.f k x6).bind fun t638 => (gamplaw07_PairEven.l0 k x5 x8 x9 t638 0))
def gamplaw07_PairEven.l0 : Nat → List (List Int) → List Int → Int → List (List Int) → Int → Option (Bool)
  | 0, _, _, _, _, _ => none
  | k + 1, x5, x8, x9, x10, x11 => if x11 < (x10.length : Int) then (if 0 ≤ x11 then (if (((rd_L1 x10 x11).length : Int) % 2) = 1 then (if ((rd_L1 x10 x11).length : Int) > 1 then (some (x9 == 5)) else (gamplaw07_PairEven.l0 k x5 x8 x9 x10 (wrap64 (x11 + 1)))) else (gamplaw07_PairEven.l0 k x5 x8 x9 x10 (wrap64 (x11 + 1)))) else (none)) else (if x9 = 0 then ((gampref07_Matching.f k (x5.length : Int) x8).bind fun t643 => (gamplaw07_PairEven.j2 k x5 x8 x10 (!t643))) else (gamplaw07_PairEven.j2 k x5 x8 x10 true))
def gamplaw07_PairEven.j2 : Nat → List (List Int) → List Int → List (List Int) → Bool → Option (Bool)
  | 0, _, _, _, _ => none
  | k + 1, x5, x8, x10, x101 => if x101 = true then (some false) else (gamplaw07_PairEven.l1 k x5 x8 x10 0)
def gamplaw07_PairEven.l1 : Nat → List (List Int) → List Int → List (List Int) → Int → Option (Bool)
  | 0, _, _, _, _ => none
  | k + 1, x5, x8, x10, x12 => if x12 < 2 then ((gampref07_Alone.f k (x5.length : Int)).bind fun t647 => (gamplaw07_PairEven.l2 k x5 x8 x10 x12 t647 0)) else ((gampref07_Blocks.f k x5 x8).bind fun bt644 => (some (!bt644.2.2)))
def gamplaw07_PairEven.l2 : Nat → List (List Int) → List Int → List (List Int) → Int → List Int → Int → Option (Bool)
  | 0, _, _, _, _, _, _ => none
  | k + 1, x5, x8, x10, x12, x13, x14 => if x14 < (x10.length : Int) then (if 0 ≤ x14 then (gamplaw07_PairEven.l3 k x5 x8 x10 x12 x13 x14 (rd_L1 x10 x14) 0) else (none)) else ((gampref07_Blocks.f k x5 x13).bind fun bt655 => (if bt655.2.2 = true then (some false) else ((pair_Blocks.f x5 x13).bind fun bt658 => (if bt658.2.2 = 5 then (gamplaw07_PairEven.l1 k x5 x8 x10 (wrap64 (x12 + 1))) else (some false)))))
def gamplaw07_PairEven.l3 : Nat → List (List Int) → List Int → List (List Int) → Int → List Int → Int → List Int → Int → Option (Bool)
  | 0, _, _, _, _, _, _, _, _ => none
  | k + 1, x5, x8, x10, x12, x13, x14, x15, x16 => if (wrap64 (x16 + 1)) < (x15.length : Int) then (if (x15.length : Int) = 0 then (none) else (if 0 ≤ (Int.tmod (wrap64 (x16 + x12)) (x15.length : Int)) then (if (Int.tmod (wrap64 (x16 + x12)) (x15.length : Int)) < (x15.length : Int) then (if 0 ≤ (Int.tmod (wrap64 ((wrap64 (x16 + x12)) + 1)) (x15.length : Int)) then (if (Int.tmod (wrap64 ((wrap64 (x16 + x12)) + 1)) (x15.length : Int)) < (x15.length : Int) then (if 0 ≤ (rd x15 (Int.tmod (wrap64 (x16 + x12)) (x15.length : Int))) then (if (rd x15 (Int.tmod (wrap64 (x16 + x12)) (x15.length : Int))) < (x13.length : Int) then (if 0 ≤ (rd x15 (Int.tmod (wrap64 ((wrap64 (x16 + x12)) + 1)) (x15.length : Int))) then (if (rd x15 (Int.tmod (wrap64 ((wrap64 (x16 + x12)) + 1)) (x15.length : Int))) < (x13.length : Int) then (gamplaw07_PairEven.l3 k x5 x8 x10 x12 ((x13.set ((rd x15 (Int.tmod (wrap64 (x16 + x12)) (x15.length : Int))) : Int).toNat (rd x15 (Int.tmod (wrap64 ((wrap64 (x16 + x12)) + 1)) (x15.length : Int)))).set ((rd x15 (Int.tmod (wrap64 ((wrap64 (x16 + x12)) + 1)) (x15.length : Int))) : Int).toNat (rd x15 (Int.tmod (wrap64 (x16 + x12)) (x15.length : Int)))) x14 x15 (wrap64 (x16 + 2))) else (none)) else (none)) else (none)) else (none)) else (none)) else (none)) else (none)) else (none))) else (gamplaw07_PairEven.l2 k x5 x8 x10 x12 x13 (wrap64 (x14 + 1)))
end
def gamplaw07_PairEven.f (k : Nat) (a0 : Int) (l1 : List Int) : Option (Bool) := (gamplaw07_made.f k a0 l1 24).bind fun t623 => ((pair_Partition.f k t623).bind fun bt626 => ((pair_Match.f k t623).bind fun bt630 => (if bt626.2 = 0 then ((gampref07_Permutation.f k bt626.1 (t623.length : Int)).bind fun t634 => (if t634 = true then ((gampref07_Holds.f k t623 bt626.1).bind fun t635 => (if t635 = true then (if bt630.2 = 0 then ((gamplaw07_lives.f k).bind fun t636 => (gamplaw07_PairEven.j0 k t623 bt626.1 bt630.1 bt630.2 (!t636))) else (if bt630.2 = 5 then ((gamplaw07_lives.f k).bind fun t637 => (gamplaw07_PairEven.j0 k t623 bt626.1 bt630.1 bt630.2 (!t637))) else (gamplaw07_PairEven.j0 k t623 bt626.1 bt630.1 bt630.2 true))) else (gamplaw07_PairEven.j0 k t623 bt626.1 bt630.1 bt630.2 true))) else (gamplaw07_PairEven.j0 k t623 bt626.1 bt630.1 bt630.2 true))) else (gamplaw07_PairEven.j0 k t623 bt626.1 bt630.1 bt630.2 true))))
set_option maxHeartbeats 8000000 in
set_option maxRecDepth 100000 in
theorem gamplaw07_PairEven.calls (k : Nat) (a0 : Int) (A1 : Option Addr) (c1 : Nat) (l1 : List Int) (r : Bool) (w : World) (hr1 : Kd.C (Kd.int .u16) w A1 l1.length l1) (hc1 : l1.length ≤ c1) (h : gamplaw07_PairEven.f k a0 l1 = some r) :
    Calls Try.prog 11 #[.int .u8 a0, .slice A1 l1.length c1] w fun e w' => e = .returned (.bool r) ∧ Below w.heap.size w w' := by
  have HR1 := Aside0.mk hr1
  have HC1 := Aside0.mk hc1
  clear hr1 hc1
  have HB := Aside0.mk (Below.refl w.heap.size w)
  have H : ((gamplaw07_made.f k a0 l1 24).bind fun t623 => ((pair_Partition.f k t623).bind fun bt626 => ((pair_Match.f k t623).bind fun bt630 => (if bt626.2 = 0 then ((gampref07_Permutation.f k bt626.1 (t623.length : Int)).bind fun t634 => (if t634 = true then ((gampref07_Holds.f k t623 bt626.1).bind fun t635 => (if t635 = true then (if bt630.2 = 0 then ((gamplaw07_lives.f k).bind fun t636 => (gamplaw07_PairEven.j0 k t623 bt626.1 bt630.1 bt630.2 (!t636))) else (if bt630.2 = 5 then ((gamplaw07_lives.f k).bind fun t637 => (gamplaw07_PairEven.j0 k t623 bt626.1 bt630.1 bt630.2 (!t637))) else (gamplaw07_PairEven.j0 k t623 bt626.1 bt630.1 bt630.2 true))) else (gamplaw07_PairEven.j0 k t623 bt626.1 bt630.1 bt630.2 true))) else (gamplaw07_PairEven.j0 k t623 bt626.1 bt630.1 bt630.2 true))) else (gamplaw07_PairEven.j0 k t623 bt626.1 bt630.1 bt630.2 true))))) = some r := h
  clear h
  replace H := Option.bind_eq_some_iff.mp H
  obtain ⟨t623, A30, H⟩ := H
  replace H : ((pair_Partition.f k t623).bind fun bt626 => ((pair_Match.f k t623).bind fun bt630 => (if bt626.2 = 0 then ((gampref07_Permutation.f k bt626.1 (t623.length : Int)).bind fun t634 => (if t634 = true then ((gampref07_Holds.f k t623 bt626.1).bind fun t635 => (if t635 = true then (if bt630.2 = 0 then ((gamplaw07_lives.f k).bind fun t636 => (gamplaw07_PairEven.j0 k t623 bt626.1 bt630.1 bt630.2 (!t636))) else (if bt630.2 = 5 then ((gamplaw07_lives.f k).bind fun t637 => (gamplaw07_PairEven.j0 k t623 bt626.1 bt630.1 bt630.2 (!t637))) else (gamplaw07_PairEven.j0 k t623 bt626.1 bt630.1 bt630.2 true))) else (gamplaw07_PairEven.j0 k t623 bt626.1 bt630.1 bt630.2 true))) else (gamplaw07_PairEven.j0 k t623 bt626.1 bt630.1 bt630.2 true))) else (gamplaw07_PairEven.j0 k t623 bt626.1 bt630.1 bt630.2 true)))) = some r := H
  have A3 := Aside0.mk A30
  clear A30
  replace H := Option.bind_eq_some_iff.mp H
  obtain ⟨⟨t626, t627⟩, A40, H⟩ := H
  replace H : ((pair_Match.f k t623).bind fun bt630 => (if t627 = 0 then ((gampref07_Permutation.f k t626 (t623.length : Int)).bind fun t634 => (if t634 = true then ((gampref07_Holds.f k t623 t626).bind fun t635 => (if t635 = true then (if bt630.2 = 0 then ((gamplaw07_lives.f k).bind fun t636 => (gamplaw07_PairEven.j0 k t623 t626 bt630.1 bt630.2 (!t636))) else (if bt630.2 = 5 then ((gamplaw07_lives.f k).bind fun t637 => (gamplaw07_PairEven.j0 k t623 t626 bt630.1 bt630.2 (!t637))) else (gamplaw07_PairEven.j0 k t623 t626 bt630.1 bt630.2 true))) else (gamplaw07_PairEven.j0 k t623 t626 bt630.1 bt630.2 true))) else (gamplaw07_PairEven.j0 k t623 t626 bt630.1 bt630.2 true))) else (gamplaw07_PairEven.j0 k t623 t626 bt630.1 bt630.2 true))) = some r := H
  have A4 := Aside0.mk A40
  clear A40
  replace H := Option.bind_eq_some_iff.mp H
  obtain ⟨⟨t630, t631⟩, A50, H⟩ := H
  replace H : (if t627 = 0 then ((gampref07_Permutation.f k t626 (t623.length : Int)).bind fun t634 => (if t634 = true then ((gampref07_Holds.f k t623 t626).bind fun t635 => (if t635 = true then (if t631 = 0 then ((gamplaw07_lives.f k).bind fun t636 => (gamplaw07_PairEven.j0 k t623 t626 t630 t631 (!t636))) else (if t631 = 5 then ((gamplaw07_lives.f k).bind fun t637 => (gamplaw07_PairEven.j0 k t623 t626 t630 t631 (!t637))) else (gamplaw07_PairEven.j0 k t623 t626 t630 t631 true))) else (gamplaw07_PairEven.j0 k t623 t626 t630 t631 true))) else (gamplaw07_PairEven.j0 k t623 t626 t630 t631 true))) else (gamplaw07_PairEven.j0 k t623 t626 t630 t631 true)) = some r := H
  have A5 := Aside0.mk A50
  clear A50
  have HC6 := Aside0.mk H
  clear H
  go_enter Try.func11, Try.ntmps11
  go_upto_region 4 with (first | (go_at_call 20; (with_reducible refine (gamplaw07_made.calls k a0 _ _ l1 24 t623 _ ?side1 ?side2 A3.out).mono ?_); (case side1 => repeat (first | exact HR1.out | (with_reducible refine Kd.C_alloc ?_ _) | (with_reducible refine Kd.C_drewN ?_ _) | (with_reducible refine Kd.C_drew ?_))); (case side2 => exact HC1.out); rintro e w7 ⟨v624, rfl, ho0, hb⟩; have n0_ := Aside0.mk (Kd.S_lower ho0 (below_size (by repeat (first | (with_reducible first | exact HB.out | apply below_alloc | apply pw_below_drewN | apply below_drew1) | exact HB.out)))); have n1_ := Aside0.mk (below_step (by repeat (first | (with_reducible first | exact HB.out | apply below_alloc | apply pw_below_drewN | apply below_drew1) | exact HB.out)) hb); clear HB; have HO625 := n0_; have HB := n1_; clear n0_ n1_; (try clear hb); (try clear hb2); (try clear hk); (try clear hi); (try clear ho0); obtain ⟨Ao8, co8, eo8⟩ := Kd.S_slice HO625.out; subst eo8) | (go_at_call 25; (with_reducible refine (pair_Partition.calls k _ _ t623 t626 t627 _ ?side1 ?side2 A4.out).mono ?_); (case side1 => repeat (first | exact (Kd.S_reads' HO625.out).2.2 | (with_reducible refine Kd.C_alloc ?_ _) | (with_reducible refine Kd.C_drewN ?_ _) | (with_reducible refine Kd.C_drew ?_))); (case side2 => exact (Kd.S_reads' HO625.out).2.1); rintro e w9 ⟨v628, rfl, ho0, hb⟩; have n0_ := Aside0.mk (Kd.S_elder' (by (with_reducible repeat (first | apply Kd.S_alloc | apply Kd.S_drewN | apply Kd.S_drew)); exact HO625.out) (Kd.R_base ho0) hb); have n1_ := Aside0.mk (Kd.R_lower ho0 (below_size (by repeat (first | (with_reducible first | exact HB.out | apply below_alloc | apply pw_below_drewN | apply below_drew1) | exact HB.out)))); have n2_ := Aside0.mk (below_step (by repeat (first | (with_reducible first | exact HB.out | apply below_alloc | apply pw_below_drewN | apply below_drew1) | exact HB.out)) hb); clear HO625; clear HB; have HO625 := n0_; have HO629 := n1_; have HB := n2_; clear n0_ n1_ n2_; (try clear hb); (try clear hb2); (try clear hk); (try clear hi); (try clear ho0)) | (go_at_call 13; (with_reducible refine (pair_Match.calls k _ _ t623 t630 t631 _ ?side1 ?side2 A5.out).mono ?_); (case side1 => repeat (first | exact (Kd.S_reads' HO625.out).2.2 | (with_reducible refine Kd.C_alloc ?_ _) | (with_reducible refine Kd.C_drewN ?_ _) | (with_reducible refine Kd.C_drew ?_))); (case side2 => exact (Kd.S_reads' HO625.out).2.1); rintro e w10 ⟨v632, rfl, ho0, hb⟩; have n0_ := Aside0.mk (Kd.S_elder' (by (with_reducible repeat (first | apply Kd.S_alloc | apply Kd.S_drewN | apply Kd.S_drew)); exact HO625.out) (Kd.R_base ho0) hb); have n1_ := Aside0.mk (Kd.R_elder' (by (with_reducible repeat (first | apply Kd.R_alloc | apply Kd.R_drewN | apply Kd.R_drew)); exact HO629.out) (Kd.R_base ho0) hb); have n2_ := Aside0.mk (Kd.R_lower (Kd.R_new' ho0 (Kd.R_lt (by (with_reducible repeat (first | apply Kd.R_alloc | apply Kd.R_drewN | apply Kd.R_drew)); exact HO629.out))) (below_size (by repeat (first | (with_reducible first | exact HB.out | apply below_alloc | apply pw_below_drewN | apply below_drew1) | exact HB.out)))); have n3_ := Aside0.mk (below_step (by repeat (first | (with_reducible first | exact HB.out | apply below_alloc | apply pw_below_drewN | apply below_drew1) | exact HB.out)) hb); clear HO625; clear HO629; clear HB; have HO625 := n0_; have HO629 := n1_; have HO633 := n2_; have HB := n3_; clear n0_ n1_ n2_ n3_; (try clear hb); (try clear hb2); (try clear hk); (try clear hi); (try clear ho0)))
  repeat (go_quiet (first | (go_at_call 20; (with_reducible refine (gamplaw07_made.calls k a0 _ _ l1 24 t623 _ ?side1 ?side2 A3.out).mono ?_); (case side1 => repeat (first | exact HR1.out | (with_reducible refine Kd.C_alloc ?_ _) | (with_reducible refine Kd.C_drewN ?_ _) | (with_reducible refine Kd.C_drew ?_))); (case side2 => exact HC1.out); rintro e w7 ⟨v624, rfl, ho0, hb⟩; have n0_ := Aside0.mk (Kd.S_lower ho0 (below_size (by repeat (first | (with_reducible first | exact HB.out | apply below_alloc | apply pw_below_drewN | apply below_drew1) | exact HB.out)))); have n1_ := Aside0.mk (below_step (by repeat (first | (with_reducible first | exact HB.out | apply below_alloc | apply pw_below_drewN | apply below_drew1) | exact HB.out)) hb); clear HB; have HO625 := n0_; have HB := n1_; clear n0_ n1_; (try clear hb); (try clear hb2); (try clear hk); (try clear hi); (try clear ho0); obtain ⟨Ao8, co8, eo8⟩ := Kd.S_slice HO625.out; subst eo8) | (go_at_call 25; (with_reducible refine (pair_Partition.calls k _ _ t623 t626 t627 _ ?side1 ?side2 A4.out).mono ?_); (case side1 => repeat (first | exact (Kd.S_reads' HO625.out).2.2 | (with_reducible refine Kd.C_alloc ?_ _) | (with_reducible refine Kd.C_drewN ?_ _) | (with_reducible refine Kd.C_drew ?_))); (case side2 => exact (Kd.S_reads' HO625.out).2.1); rintro e w9 ⟨v628, rfl, ho0, hb⟩; have n0_ := Aside0.mk (Kd.S_elder' (by (with_reducible repeat (first | apply Kd.S_alloc | apply Kd.S_drewN | apply Kd.S_drew)); exact HO625.out) (Kd.R_base ho0) hb); have n1_ := Aside0.mk (Kd.R_lower ho0 (below_size (by repeat (first | (with_reducible first | exact HB.out | apply below_alloc | apply pw_below_drewN | apply below_drew1) | exact HB.out)))); have n2_ := Aside0.mk (below_step (by repeat (first | (with_reducible first | exact HB.out | apply below_alloc | apply pw_below_drewN | apply below_drew1) | exact HB.out)) hb); clear HO625; clear HB; have HO625 := n0_; have HO629 := n1_; have HB := n2_; clear n0_ n1_ n2_; (try clear hb); (try clear hb2); (try clear hk); (try clear hi); (try clear ho0)) | (go_at_call 13; (with_reducible refine (pair_Match.calls k _ _ t623 t630 t631 _ ?side1 ?side2 A5.out).mono ?_); (case side1 => repeat (first | exact (Kd.S_reads' HO625.out).2.2 | (with_reducible refine Kd.C_alloc ?_ _) | (with_reducible refine Kd.C_drewN ?_ _) | (with_reducible refine Kd.C_drew ?_))); (case side2 => exact (Kd.S_reads' HO625.out).2.1); rintro e w10 ⟨v632, rfl, ho0, hb⟩; have n0_ := Aside0.mk (Kd.S_elder' (by (with_reducible repeat (first | apply Kd.S_alloc | apply Kd.S_drewN | apply Kd.S_drew)); exact HO625.out) (Kd.R_base ho0) hb); have n1_ := Aside0.mk (Kd.R_elder' (by (with_reducible repeat (first | apply Kd.R_alloc | apply Kd.R_drewN | apply Kd.R_drew)); exact HO629.out) (Kd.R_base ho0) hb); have n2_ := Aside0.mk (Kd.R_lower (Kd.R_new' ho0 (Kd.R_lt (by (with_reducible repeat (first | apply Kd.R_alloc | apply Kd.R_drewN | apply Kd.R_drew)); exact HO629.out))) (below_size (by repeat (first | (with_reducible first | exact HB.out | apply below_alloc | apply pw_below_drewN | apply below_drew1) | exact HB.out)))); have n3_ := Aside0.mk (below_step (by repeat (first | (with_reducible first | exact HB.out | apply below_alloc | apply pw_below_drewN | apply below_drew1) | exact HB.out)) hb); clear HO625; clear HO629; clear HB; have HO625 := n0_; have HO629 := n1_; have HO633 := n2_; have HB := n3_; clear n0_ n1_ n2_ n3_; (try clear hb); (try clear hb2); (try clear hk); (try clear hi); (try clear ho0))); go_upto_region 4 with (first | (go_at_call 20; (with_reducible refine (gamplaw07_made.calls k a0 _ _ l1 24 t623 _ ?side1 ?side2 A3.out).mono ?_); (case side1 => repeat (first | exact HR1.out | (with_reducible refine Kd.C_alloc ?_ _) | (with_reducible refine Kd.C_drewN ?_ _) | (with_reducible refine Kd.C_drew ?_))); (case side2 => exact HC1.out); rintro e w7 ⟨v624, rfl, ho0, hb⟩; have n0_ := Aside0.mk (Kd.S_lower ho0 (below_size (by repeat (first | (with_reducible first | exact HB.out | apply below_alloc | apply pw_below_drewN | apply below_drew1) | exact HB.out)))); have n1_ := Aside0.mk (below_step (by repeat (first | (with_reducible first | exact HB.out | apply below_alloc | apply pw_below_drewN | apply below_drew1) | exact HB.out)) hb); clear HB; have HO625 := n0_; have HB := n1_; clear n0_ n1_; (try clear hb); (try clear hb2); (try clear hk); (try clear hi); (try clear ho0); obtain ⟨Ao8, co8, eo8⟩ := Kd.S_slice HO625.out; subst eo8) | (go_at_call 25; (with_reducible refine (pair_Partition.calls k _ _ t623 t626 t627 _ ?side1 ?side2 A4.out).mono ?_); (case side1 => repeat (first | exact (Kd.S_reads' HO625.out).2.2 | (with_reducible refine Kd.C_alloc ?_ _) | (with_reducible refine Kd.C_drewN ?_ _) | (with_reducible refine Kd.C_drew ?_))); (case side2 => exact (Kd.S_reads' HO625.out).2.1); rintro e w9 ⟨v628, rfl, ho0, hb⟩; have n0_ := Aside0.mk (Kd.S_elder' (by (with_reducible repeat (first | apply Kd.S_alloc | apply Kd.S_drewN | apply Kd.S_drew)); exact HO625.out) (Kd.R_base ho0) hb); have n1_ := Aside0.mk (Kd.R_lower ho0 (below_size (by repeat (first | (with_reducible first | exact HB.out | apply below_alloc | apply pw_below_drewN | apply below_drew1) | exact HB.out)))); have n2_ := Aside0.mk (below_step (by repeat (first | (with_reducible first | exact HB.out | apply below_alloc | apply pw_below_drewN | apply below_drew1) | exact HB.out)) hb); clear HO625; clear HB; have HO625 := n0_; have HO629 := n1_; have HB := n2_; clear n0_ n1_ n2_; (try clear hb); (try clear hb2); (try clear hk); (try clear hi); (try clear ho0)) | (go_at_call 13; (with_reducible refine (pair_Match.calls k _ _ t623 t630 t631 _ ?side1 ?side2 A5.out).mono ?_); (case side1 => repeat (first | exact (Kd.S_reads' HO625.out).2.2 | (with_reducible refine Kd.C_alloc ?_ _) | (with_reducible refine Kd.C_drewN ?_ _) | (with_reducible refine Kd.C_drew ?_))); (case side2 => exact (Kd.S_reads' HO625.out).2.1); rintro e w10 ⟨v632, rfl, ho0, hb⟩; have n0_ := Aside0.mk (Kd.S_elder' (by (with_reducible repeat (first | apply Kd.S_alloc | apply Kd.S_drewN | apply Kd.S_drew)); exact HO625.out) (Kd.R_base ho0) hb); have n1_ := Aside0.mk (Kd.R_elder' (by (with_reducible repeat (first | apply Kd.R_alloc | apply Kd.R_drewN | apply Kd.R_drew)); exact HO629.out) (Kd.R_base ho0) hb); have n2_ := Aside0.mk (Kd.R_lower (Kd.R_new' ho0 (Kd.R_lt (by (with_reducible repeat (first | apply Kd.R_alloc | apply Kd.R_drewN | apply Kd.R_drew)); exact HO629.out))) (below_size (by repeat (first | (with_reducible first | exact HB.out | apply below_alloc | apply pw_below_drewN | apply below_drew1) | exact HB.out)))); have n3_ := Aside0.mk (below_step (by repeat (first | (with_reducible first | exact HB.out | apply below_alloc | apply pw_below_drewN | apply below_drew1) | exact HB.out)) hb); clear HO625; clear HO629; clear HB; have HO625 := n0_; have HO629 := n1_; have HO633 := n2_; have HB := n3_; clear n0_ n1_ n2_ n3_; (try clear hb); (try clear hb2); (try clear hk); (try clear hi); (try clear ho0))))
  (try simp only [Act.put, List.setIfInBounds_toArray, List.set_cons_zero, List.set_cons_succ])
  go_cut [67] (fun v67 wc => ∃ (kq : Nat) (x67_5 : Bool), v67 = .bool x67_5 ∧ Aside0 (gamplaw07_PairEven.j0 kq t623 t626 t630 t631 x67_5 = some r) ∧ Aside0 (kq ≤ k) ∧ Aside0 (Kd.S (Kd.slice 3 (Kd.int .i64)) 24 wc w.heap.size (fun k_ => some k_ ≠ (v628 : Value).ownBlock ∧ some k_ ≠ (v632 : Value).ownBlock) (.slice Ao8 t623.length co8) t623) ∧ Aside0 (Kd.R (Kd.int .i64) 3 wc w.heap.size (fun k_ => some k_ ≠ (v632 : Value).ownBlock) v628 t626) ∧ Aside0 (Kd.R (Kd.int .i64) 3 wc w.heap.size (fun k_ => some k_ ≠ (v628 : Value).ownBlock) v632 t630) ∧ Aside0 (Below w.heap.size w wc))
  case first =>
    have H := HC6.out
    clear HC6
    by_cases c11 : t627 = 0
    · rw [if_pos c11] at H
      have c11b0 : (t627 == 0) = true := beq_iff_eq.mpr c11
      have c11b1 : (t627 != 0) = false := bne_eq_false_iff_eq.mpr c11
      clear c11
      (first | rw [c11b0] | (simp only [i64_w, i32_w]; rw [c11b0]) | skip)
      replace H := Option.bind_eq_some_iff.mp H
      obtain ⟨t634, A120, H⟩ := H
      replace H : (if t634 = true then ((gampref07_Holds.f k t623 t626).bind fun t635 => (if t635 = true then (if t631 = 0 then ((gamplaw07_lives.f k).bind fun t636 => (gamplaw07_PairEven.j0 k t623 t626 t630 t631 (!t636))) else (if t631 = 5 then ((gamplaw07_lives.f k).bind fun t637 => (gamplaw07_PairEven.j0 k t623 t626 t630 t631 (!t637))) else (gamplaw07_PairEven.j0 k t623 t626 t630 t631 true))) else (gamplaw07_PairEven.j0 k t623 t626 t630 t631 true))) else (gamplaw07_PairEven.j0 k t623 t626 t630 t631 true)) = some r := H
      have A12 := Aside0.mk A120
      clear A120
      by_cases c13 : t634 = true
      · subst c13
        have H1 : ((gampref07_Holds.f k t623 t626).bind fun t635 => (if t635 = true then (if t631 = 0 then ((gamplaw07_lives.f k).bind fun t636 => (gamplaw07_PairEven.j0 k t623 t626 t630 t631 (!t636))) else (if t631 = 5 then ((gamplaw07_lives.f k).bind fun t637 => (gamplaw07_PairEven.j0 k t623 t626 t630 t631 (!t637))) else (gamplaw07_PairEven.j0 k t623 t626 t630 t631 true))) else (gamplaw07_PairEven.j0 k t623 t626 t630 t631 true))) = some r := by rw [if_pos rfl] at H; exact H
        clear H
        have H := H1
        clear H1
        replace H := Option.bind_eq_some_iff.mp H
        obtain ⟨t635, A140, H⟩ := H
        replace H : (if t635 = true then (if t631 = 0 then ((gamplaw07_lives.f k).bind fun t636 => (gamplaw07_PairEven.j0 k t623 t626 t630 t631 (!t636))) else (if t631 = 5 then ((gamplaw07_lives.f k).bind fun t637 => (gamplaw07_PairEven.j0 k t623 t626 t630 t631 (!t637))) else (gamplaw07_PairEven.j0 k t623 t626 t630 t631 true))) else (gamplaw07_PairEven.j0 k t623 t626 t630 t631 true)) = some r := H
        have A14 := Aside0.mk A140
        clear A140
        by_cases c15 : t635 = true
        · subst c15
          have H1 : (if t631 = 0 then ((gamplaw07_lives.f k).bind fun t636 => (gamplaw07_PairEven.j0 k t623 t626 t630 t631 (!t636))) else (if t631 = 5 then ((gamplaw07_lives.f k).bind fun t637 => (gamplaw07_PairEven.j0 k t623 t626 t630 t631 (!t637))) else (gamplaw07_PairEven.j0 k t623 t626 t630 t631 true))) = some r := by rw [if_pos rfl] at H; exact H
          clear H
          have H := H1
          clear H1
          by_cases c16 : t631 = 0
          · rw [if_pos c16] at H
            have c16b0 : (t631 == 0) = true := beq_iff_eq.mpr c16
            have c16b1 : (t631 != 0) = false := bne_eq_false_iff_eq.mpr c16
            clear c16
            replace H := Option.bind_eq_some_iff.mp H
            obtain ⟨t636, A170, H⟩ := H
            replace H : (gamplaw07_PairEven.j0 k t623 t626 t630 t631 (!t636)) = some r := H
            have A17 := Aside0.mk A170
            clear A170
            have H' := Aside0.mk H
            clear H
            obtain ⟨Ao18, co18, eo18⟩ := Kd.R_slice HO629.out
            subst eo18
            go_wp2_with (first | (go_at_call 26; (with_reducible refine (gampref07_Permutation.calls k _ _ t626 (t623.length : Int) true _ ?side1 ?side2 A12.out).mono ?_); (case side1 => repeat (first | exact (Kd.R_reads' HO629.out).2.2 | (with_reducible refine Kd.C_alloc ?_ _) | (with_reducible refine Kd.C_drewN ?_ _) | (with_reducible refine Kd.C_drew ?_))); (case side2 => exact (Kd.R_reads' HO629.out).2.1); rintro e w' ⟨rfl, ⟨nd, rfl⟩⟩; (try first | exact ⟨rfl, _, World.drewN_drewN _ _ _⟩ | exact ⟨rfl, _, Eq.trans (World.drewN_drewN _ _ _) (congrArg (World.drewN _) (Nat.add_assoc _ _ _))⟩)) | (go_at_call 22; (with_reducible refine (gampref07_Holds.calls k _ _ t623 _ _ t626 true _ ?side1 ?side2 ?side3 ?side4 A14.out).mono ?_); (case side1 => repeat (first | exact (Kd.S_reads' HO625.out).2.2 | (with_reducible refine Kd.C_alloc ?_ _) | (with_reducible refine Kd.C_drewN ?_ _) | (with_reducible refine Kd.C_drew ?_))); (case side2 => exact (Kd.S_reads' HO625.out).2.1); (case side3 => repeat (first | exact (Kd.R_reads' HO629.out).2.2 | (with_reducible refine Kd.C_alloc ?_ _) | (with_reducible refine Kd.C_drewN ?_ _) | (with_reducible refine Kd.C_drew ?_))); (case side4 => exact (Kd.R_reads' HO629.out).2.1); rintro e w19 ⟨rfl, hb⟩; have n0_ := Aside0.mk (Kd.S_below (by (with_reducible repeat (first | apply Kd.S_alloc | apply Kd.S_drewN | apply Kd.S_drew)); exact HO625.out) hb); have n1_ := Aside0.mk (Kd.R_below (by (with_reducible repeat (first | apply Kd.R_alloc | apply Kd.R_drewN | apply Kd.R_drew)); exact HO629.out) hb); have n2_ := Aside0.mk (Kd.R_below (by (with_reducible repeat (first | apply Kd.R_alloc | apply Kd.R_drewN | apply Kd.R_drew)); exact HO633.out) hb); have n3_ := Aside0.mk (below_step (by repeat (first | (with_reducible first | exact HB.out | apply below_alloc | apply pw_below_drewN | apply below_drew1) | exact HB.out)) hb); clear HO625; clear HO629; clear HO633; clear HB; have HO625 := n0_; have HO629 := n1_; have HO633 := n2_; have HB := n3_; clear n0_ n1_ n2_ n3_; (try clear hb); (try clear hb2); (try clear hk); (try clear hi)) | (go_at_call 16; (with_reducible refine (gamplaw07_lives.calls k  t636 _ A17.out).mono ?_); rintro e w20 ⟨rfl, hb⟩; have n0_ := Aside0.mk (Kd.S_below (by (with_reducible repeat (first | apply Kd.S_alloc | apply Kd.S_drewN | apply Kd.S_drew)); exact HO625.out) hb); have n1_ := Aside0.mk (Kd.R_below (by (with_reducible repeat (first | apply Kd.R_alloc | apply Kd.R_drewN | apply Kd.R_drew)); exact HO629.out) hb); have n2_ := Aside0.mk (Kd.R_below (by (with_reducible repeat (first | apply Kd.R_alloc | apply Kd.R_drewN | apply Kd.R_drew)); exact HO633.out) hb); have n3_ := Aside0.mk (below_step (by repeat (first | (with_reducible first | exact HB.out | apply below_alloc | apply pw_below_drewN | apply below_drew1) | exact HB.out)) hb); clear HO625; clear HO629; clear HO633; clear HB; have HO625 := n0_; have HO629 := n1_; have HO633 := n2_; have HB := n3_; clear n0_ n1_ n2_ n3_; (try clear hb); (try clear hb2); (try clear hk); (try clear hi)))
            repeat (go_quiet (first | (go_at_call 26; (with_reducible refine (gampref07_Permutation.calls k _ _ t626 (t623.length : Int) true _ ?side1 ?side2 A12.out).mono ?_); (case side1 => repeat (first | exact (Kd.R_reads' HO629.out).2.2 | (with_reducible refine Kd.C_alloc ?_ _) | (with_reducible refine Kd.C_drewN ?_ _) | (with_reducible refine Kd.C_drew ?_))); (case side2 => exact (Kd.R_reads' HO629.out).2.1); rintro e w' ⟨rfl, ⟨nd, rfl⟩⟩; (try first | exact ⟨rfl, _, World.drewN_drewN _ _ _⟩ | exact ⟨rfl, _, Eq.trans (World.drewN_drewN _ _ _) (congrArg (World.drewN _) (Nat.add_assoc _ _ _))⟩)) | (go_at_call 22; (with_reducible refine (gampref07_Holds.calls k _ _ t623 _ _ t626 true _ ?side1 ?side2 ?side3 ?side4 A14.out).mono ?_); (case side1 => repeat (first | exact (Kd.S_reads' HO625.out).2.2 | (with_reducible refine Kd.C_alloc ?_ _) | (with_reducible refine Kd.C_drewN ?_ _) | (with_reducible refine Kd.C_drew ?_))); (case side2 => exact (Kd.S_reads' HO625.out).2.1); (case side3 => repeat (first | exact (Kd.R_reads' HO629.out).2.2 | (with_reducible refine Kd.C_alloc ?_ _) | (with_reducible refine Kd.C_drewN ?_ _) | (with_reducible refine Kd.C_drew ?_))); (case side4 => exact (Kd.R_reads' HO629.out).2.1); rintro e w19 ⟨rfl, hb⟩; have n0_ := Aside0.mk (Kd.S_below (by (with_reducible repeat (first | apply Kd.S_alloc | apply Kd.S_drewN | apply Kd.S_drew)); exact HO625.out) hb); have n1_ := Aside0.mk (Kd.R_below (by (with_reducible repeat (first | apply Kd.R_alloc | apply Kd.R_drewN | apply Kd.R_drew)); exact HO629.out) hb); have n2_ := Aside0.mk (Kd.R_below (by (with_reducible repeat (first | apply Kd.R_alloc | apply Kd.R_drewN | apply Kd.R_drew)); exact HO633.out) hb); have n3_ := Aside0.mk (below_step (by repeat (first | (with_reducible first | exact HB.out | apply below_alloc | apply pw_below_drewN | apply below_drew1) | exact HB.out)) hb); clear HO625; clear HO629; clear HO633; clear HB; have HO625 := n0_; have HO629 := n1_; have HO633 := n2_; have HB := n3_; clear n0_ n1_ n2_ n3_; (try clear hb); (try clear hb2); (try clear hk); (try clear hi)) | (go_at_call 16; (with_reducible refine (gamplaw07_lives.calls k  t636 _ A17.out).mono ?_); rintro e w20 ⟨rfl, hb⟩; have n0_ := Aside0.mk (Kd.S_below (by (with_reducible repeat (first | apply Kd.S_alloc | apply Kd.S_drewN | apply Kd.S_drew)); exact HO625.out) hb); have n1_ := Aside0.mk (Kd.R_below (by (with_reducible repeat (first | apply Kd.R_alloc | apply Kd.R_drewN | apply Kd.R_drew)); exact HO629.out) hb); have n2_ := Aside0.mk (Kd.R_below (by (with_reducible repeat (first | apply Kd.R_alloc | apply Kd.R_drewN | apply Kd.R_drew)); exact HO633.out) hb); have n3_ := Aside0.mk (below_step (by repeat (first | (with_reducible first | exact HB.out | apply below_alloc | apply pw_below_drewN | apply below_drew1) | exact HB.out)) hb); clear HO625; clear HO629; clear HO633; clear HB; have HO625 := n0_; have HO629 := n1_; have HO633 := n2_; have HB := n3_; clear n0_ n1_ n2_ n3_; (try clear hb); (try clear hb2); (try clear hk); (try clear hi))); try go_wp2_with (first | (go_at_call 26; (with_reducible refine (gampref07_Permutation.calls k _ _ t626 (t623.length : Int) true _ ?side1 ?side2 A12.out).mono ?_); (case side1 => repeat (first | exact (Kd.R_reads' HO629.out).2.2 | (with_reducible refine Kd.C_alloc ?_ _) | (with_reducible refine Kd.C_drewN ?_ _) | (with_reducible refine Kd.C_drew ?_))); (case side2 => exact (Kd.R_reads' HO629.out).2.1); rintro e w' ⟨rfl, ⟨nd, rfl⟩⟩; (try first | exact ⟨rfl, _, World.drewN_drewN _ _ _⟩ | exact ⟨rfl, _, Eq.trans (World.drewN_drewN _ _ _) (congrArg (World.drewN _) (Nat.add_assoc _ _ _))⟩)) | (go_at_call 22; (with_reducible refine (gampref07_Holds.calls k _ _ t623 _ _ t626 true _ ?side1 ?side2 ?side3 ?side4 A14.out).mono ?_); (case side1 => repeat (first | exact (Kd.S_reads' HO625.out).2.2 | (with_reducible refine Kd.C_alloc ?_ _) | (with_reducible refine Kd.C_drewN ?_ _) | (with_reducible refine Kd.C_drew ?_))); (case side2 => exact (Kd.S_reads' HO625.out).2.1); (case side3 => repeat (first | exact (Kd.R_reads' HO629.out).2.2 | (with_reducible refine Kd.C_alloc ?_ _) | (with_reducible refine Kd.C_drewN ?_ _) | (with_reducible refine Kd.C_drew ?_))); (case side4 => exact (Kd.R_reads' HO629.out).2.1); rintro e w19 ⟨rfl, hb⟩; have n0_ := Aside0.mk (Kd.S_below (by (with_reducible repeat (first | apply Kd.S_alloc | apply Kd.S_drewN | apply Kd.S_drew)); exact HO625.out) hb); have n1_ := Aside0.mk (Kd.R_below (by (with_reducible repeat (first | apply Kd.R_alloc | apply Kd.R_drewN | apply Kd.R_drew)); exact HO629.out) hb); have n2_ := Aside0.mk (Kd.R_below (by (with_reducible repeat (first | apply Kd.R_alloc | apply Kd.R_drewN | apply Kd.R_drew)); exact HO633.out) hb); have n3_ := Aside0.mk (below_step (by repeat (first | (with_reducible first | exact HB.out | apply below_alloc | apply pw_below_drewN | apply below_drew1) | exact HB.out)) hb); clear HO625; clear HO629; clear HO633; clear HB; have HO625 := n0_; have HO629 := n1_; have HO633 := n2_; have HB := n3_; clear n0_ n1_ n2_ n3_; (try clear hb); (try clear hb2); (try clear hk); (try clear hi)) | (go_at_call 16; (with_reducible refine (gamplaw07_lives.calls k  t636 _ A17.out).mono ?_); rintro e w20 ⟨rfl, hb⟩; have n0_ := Aside0.mk (Kd.S_below (by (with_reducible repeat (first | apply Kd.S_alloc | apply Kd.S_drewN | apply Kd.S_drew)); exact HO625.out) hb); have n1_ := Aside0.mk (Kd.R_below (by (with_reducible repeat (first | apply Kd.R_alloc | apply Kd.R_drewN | apply Kd.R_drew)); exact HO629.out) hb); have n2_ := Aside0.mk (Kd.R_below (by (with_reducible repeat (first | apply Kd.R_alloc | apply Kd.R_drewN | apply Kd.R_drew)); exact HO633.out) hb); have n3_ := Aside0.mk (below_step (by repeat (first | (with_reducible first | exact HB.out | apply below_alloc | apply pw_below_drewN | apply below_drew1) | exact HB.out)) hb); clear HO625; clear HO629; clear HO633; clear HB; have HO625 := n0_; have HO629 := n1_; have HO633 := n2_; have HB := n3_; clear n0_ n1_ n2_ n3_; (try clear hb); (try clear hb2); (try clear hk); (try clear hi))))
            go_meet
            case rel => exact ⟨_, (!t636), (by first | rfl | (simp; done) | (simp [*]; done)), H', ⟨by first | omega | exact Nat.le_refl _⟩, ⟨by (with_reducible repeat (first | apply Kd.S_alloc | apply Kd.S_drewN | apply Kd.S_drew)); exact Kd.S_mono HO625.out (fun _ hk => ⟨hk.1.2, hk.2⟩)⟩, ⟨by (with_reducible repeat (first | apply Kd.R_alloc | apply Kd.R_drewN | apply Kd.R_drew)); exact Kd.R_mono HO629.out (fun _ hk => hk.2)⟩, ⟨by (with_reducible repeat (first | apply Kd.R_alloc | apply Kd.R_drewN | apply Kd.R_drew)); exact Kd.R_mono HO633.out (fun _ hk => hk.2)⟩, ⟨by repeat (first | (with_reducible first | exact HB.out | apply below_alloc | apply pw_below_drewN | apply below_drew1) | exact HB.out)⟩⟩
          · rw [if_neg c16] at H
            have c16b0 : (t631 == 0) = false := beq_eq_false_iff_ne.mpr c16
            have c16b1 : (t631 != 0) = true := bne_iff_ne.mpr c16
            by_cases c21 : t631 = 5
            · rw [if_pos c21] at H
              have c21b0 : (t631 == 5) = true := beq_iff_eq.mpr c21
              have c21b1 : (t631 != 5) = false := bne_eq_false_iff_eq.mpr c21
              clear c21
              replace H := Option.bind_eq_some_iff.mp H
              obtain ⟨t637, A220, H⟩ := H
              replace H : (gamplaw07_PairEven.j0 k t623 t626 t630 t631 (!t637)) = some r := H
              have A22 := Aside0.mk A220
              clear A220
              have H' := Aside0.mk H
              clear H
              obtain ⟨Ao23, co23, eo23⟩ := Kd.R_slice HO629.out
              subst eo23
              go_wp2_with (first | (go_at_call 26; (with_reducible refine (gampref07_Permutation.calls k _ _ t626 (t623.length : Int) true _ ?side1 ?side2 A12.out).mono ?_); (case side1 => repeat (first | exact (Kd.R_reads' HO629.out).2.2 | (with_reducible refine Kd.C_alloc ?_ _) | (with_reducible refine Kd.C_drewN ?_ _) | (with_reducible refine Kd.C_drew ?_))); (case side2 => exact (Kd.R_reads' HO629.out).2.1); rintro e w' ⟨rfl, ⟨nd, rfl⟩⟩; (try first | exact ⟨rfl, _, World.drewN_drewN _ _ _⟩ | exact ⟨rfl, _, Eq.trans (World.drewN_drewN _ _ _) (congrArg (World.drewN _) (Nat.add_assoc _ _ _))⟩)) | (go_at_call 22; (with_reducible refine (gampref07_Holds.calls k _ _ t623 _ _ t626 true _ ?side1 ?side2 ?side3 ?side4 A14.out).mono ?_); (case side1 => repeat (first | exact (Kd.S_reads' HO625.out).2.2 | (with_reducible refine Kd.C_alloc ?_ _) | (with_reducible refine Kd.C_drewN ?_ _) | (with_reducible refine Kd.C_drew ?_))); (case side2 => exact (Kd.S_reads' HO625.out).2.1); (case side3 => repeat (first | exact (Kd.R_reads' HO629.out).2.2 | (with_reducible refine Kd.C_alloc ?_ _) | (with_reducible refine Kd.C_drewN ?_ _) | (with_reducible refine Kd.C_drew ?_))); (case side4 => exact (Kd.R_reads' HO629.out).2.1); rintro e w24 ⟨rfl, hb⟩; have n0_ := Aside0.mk (Kd.S_below (by (with_reducible repeat (first | apply Kd.S_alloc | apply Kd.S_drewN | apply Kd.S_drew)); exact HO625.out) hb); have n1_ := Aside0.mk (Kd.R_below (by (with_reducible repeat (first | apply Kd.R_alloc | apply Kd.R_drewN | apply Kd.R_drew)); exact HO629.out) hb); have n2_ := Aside0.mk (Kd.R_below (by (with_reducible repeat (first | apply Kd.R_alloc | apply Kd.R_drewN | apply Kd.R_drew)); exact HO633.out) hb); have n3_ := Aside0.mk (below_step (by repeat (first | (with_reducible first | exact HB.out | apply below_alloc | apply pw_below_drewN | apply below_drew1) | exact HB.out)) hb); clear HO625; clear HO629; clear HO633; clear HB; have HO625 := n0_; have HO629 := n1_; have HO633 := n2_; have HB := n3_; clear n0_ n1_ n2_ n3_; (try clear hb); (try clear hb2); (try clear hk); (try clear hi)) | (go_at_call 16; (with_reducible refine (gamplaw07_lives.calls k  t637 _ A22.out).mono ?_); rintro e w25 ⟨rfl, hb⟩; have n0_ := Aside0.mk (Kd.S_below (by (with_reducible repeat (first | apply Kd.S_alloc | apply Kd.S_drewN | apply Kd.S_drew)); exact HO625.out) hb); have n1_ := Aside0.mk (Kd.R_below (by (with_reducible repeat (first | apply Kd.R_alloc | apply Kd.R_drewN | apply Kd.R_drew)); exact HO629.out) hb); have n2_ := Aside0.mk (Kd.R_below (by (with_reducible repeat (first | apply Kd.R_alloc | apply Kd.R_drewN | apply Kd.R_drew)); exact HO633.out) hb); have n3_ := Aside0.mk (below_step (by repeat (first | (with_reducible first | exact HB.out | apply below_alloc | apply pw_below_drewN | apply below_drew1) | exact HB.out)) hb); clear HO625; clear HO629; clear HO633; clear HB; have HO625 := n0_; have HO629 := n1_; have HO633 := n2_; have HB := n3_; clear n0_ n1_ n2_ n3_; (try clear hb); (try clear hb2); (try clear hk); (try clear hi)))
              repeat (go_quiet (first | (go_at_call 26; (with_reducible refine (gampref07_Permutation.calls k _ _ t626 (t623.length : Int) true _ ?side1 ?side2 A12.out).mono ?_); (case side1 => repeat (first | exact (Kd.R_reads' HO629.out).2.2 | (with_reducible refine Kd.C_alloc ?_ _) | (with_reducible refine Kd.C_drewN ?_ _) | (with_reducible refine Kd.C_drew ?_))); (case side2 => exact (Kd.R_reads' HO629.out).2.1); rintro e w' ⟨rfl, ⟨nd, rfl⟩⟩; (try first | exact ⟨rfl, _, World.drewN_drewN _ _ _⟩ | exact ⟨rfl, _, Eq.trans (World.drewN_drewN _ _ _) (congrArg (World.drewN _) (Nat.add_assoc _ _ _))⟩)) | (go_at_call 22; (with_reducible refine (gampref07_Holds.calls k _ _ t623 _ _ t626 true _ ?side1 ?side2 ?side3 ?side4 A14.out).mono ?_); (case side1 => repeat (first | exact (Kd.S_reads' HO625.out).2.2 | (with_reducible refine Kd.C_alloc ?_ _) | (with_reducible refine Kd.C_drewN ?_ _) | (with_reducible refine Kd.C_drew ?_))); (case side2 => exact (Kd.S_reads' HO625.out).2.1); (case side3 => repeat (first | exact (Kd.R_reads' HO629.out).2.2 | (with_reducible refine Kd.C_alloc ?_ _) | (with_reducible refine Kd.C_drewN ?_ _) | (with_reducible refine Kd.C_drew ?_))); (case side4 => exact (Kd.R_reads' HO629.out).2.1); rintro e w24 ⟨rfl, hb⟩; have n0_ := Aside0.mk (Kd.S_below (by (with_reducible repeat (first | apply Kd.S_alloc | apply Kd.S_drewN | apply Kd.S_drew)); exact HO625.out) hb); have n1_ := Aside0.mk (Kd.R_below (by (with_reducible repeat (first | apply Kd.R_alloc | apply Kd.R_drewN | apply Kd.R_drew)); exact HO629.out) hb); have n2_ := Aside0.mk (Kd.R_below (by (with_reducible repeat (first | apply Kd.R_alloc | apply Kd.R_drewN | apply Kd.R_drew)); exact HO633.out) hb); have n3_ := Aside0.mk (below_step (by repeat (first | (with_reducible first | exact HB.out | apply below_alloc | apply pw_below_drewN | apply below_drew1) | exact HB.out)) hb); clear HO625; clear HO629; clear HO633; clear HB; have HO625 := n0_; have HO629 := n1_; have HO633 := n2_; have HB := n3_; clear n0_ n1_ n2_ n3_; (try clear hb); (try clear hb2); (try clear hk); (try clear hi)) | (go_at_call 16; (with_reducible refine (gamplaw07_lives.calls k  t637 _ A22.out).mono ?_); rintro e w25 ⟨rfl, hb⟩; have n0_ := Aside0.mk (Kd.S_below (by (with_reducible repeat (first | apply Kd.S_alloc | apply Kd.S_drewN | apply Kd.S_drew)); exact HO625.out) hb); have n1_ := Aside0.mk (Kd.R_below (by (with_reducible repeat (first | apply Kd.R_alloc | apply Kd.R_drewN | apply Kd.R_drew)); exact HO629.out) hb); have n2_ := Aside0.mk (Kd.R_below (by (with_reducible repeat (first | apply Kd.R_alloc | apply Kd.R_drewN | apply Kd.R_drew)); exact HO633.out) hb); have n3_ := Aside0.mk (below_step (by repeat (first | (with_reducible first | exact HB.out | apply below_alloc | apply pw_below_drewN | apply below_drew1) | exact HB.out)) hb); clear HO625; clear HO629; clear HO633; clear HB; have HO625 := n0_; have HO629 := n1_; have HO633 := n2_; have HB := n3_; clear n0_ n1_ n2_ n3_; (try clear hb); (try clear hb2); (try clear hk); (try clear hi))); try go_wp2_with (first | (go_at_call 26; (with_reducible refine (gampref07_Permutation.calls k _ _ t626 (t623.length : Int) true _ ?side1 ?side2 A12.out).mono ?_); (case side1 => repeat (first | exact (Kd.R_reads' HO629.out).2.2 | (with_reducible refine Kd.C_alloc ?_ _) | (with_reducible refine Kd.C_drewN ?_ _) | (with_reducible refine Kd.C_drew ?_))); (case side2 => exact (Kd.R_reads' HO629.out).2.1); rintro e w' ⟨rfl, ⟨nd, rfl⟩⟩; (try first | exact ⟨rfl, _, World.drewN_drewN _ _ _⟩ | exact ⟨rfl, _, Eq.trans (World.drewN_drewN _ _ _) (congrArg (World.drewN _) (Nat.add_assoc _ _ _))⟩)) | (go_at_call 22; (with_reducible refine (gampref07_Holds.calls k _ _ t623 _ _ t626 true _ ?side1 ?side2 ?side3 ?side4 A14.out).mono ?_); (case side1 => repeat (first | exact (Kd.S_reads' HO625.out).2.2 | (with_reducible refine Kd.C_alloc ?_ _) | (with_reducible refine Kd.C_drewN ?_ _) | (with_reducible refine Kd.C_drew ?_))); (case side2 => exact (Kd.S_reads' HO625.out).2.1); (case side3 => repeat (first | exact (Kd.R_reads' HO629.out).2.2 | (with_reducible refine Kd.C_alloc ?_ _) | (with_reducible refine Kd.C_drewN ?_ _) | (with_reducible refine Kd.C_drew ?_))); (case side4 => exact (Kd.R_reads' HO629.out).2.1); rintro e w24 ⟨rfl, hb⟩; have n0_ := Aside0.mk (Kd.S_below (by (with_reducible repeat (first | apply Kd.S_alloc | apply Kd.S_drewN | apply Kd.S_drew)); exact HO625.out) hb); have n1_ := Aside0.mk (Kd.R_below (by (with_reducible repeat (first | apply Kd.R_alloc | apply Kd.R_drewN | apply Kd.R_drew)); exact HO629.out) hb); have n2_ := Aside0.mk (Kd.R_below (by (with_reducible repeat (first | apply Kd.R_alloc | apply Kd.R_drewN | apply Kd.R_drew)); exact HO633.out) hb); have n3_ := Aside0.mk (below_step (by repeat (first | (with_reducible first | exact HB.out | apply below_alloc | apply pw_below_drewN | apply below_drew1) | exact HB.out)) hb); clear HO625; clear HO629; clear HO633; clear HB; have HO625 := n0_; have HO629 := n1_; have HO633 := n2_; have HB := n3_; clear n0_ n1_ n2_ n3_; (try clear hb); (try clear hb2); (try clear hk); (try clear hi)) | (go_at_call 16; (with_reducible refine (gamplaw07_lives.calls k  t637 _ A22.out).mono ?_); rintro e w25 ⟨rfl, hb⟩; have n0_ := Aside0.mk (Kd.S_below (by (with_reducible repeat (first | apply Kd.S_alloc | apply Kd.S_drewN | apply Kd.S_drew)); exact HO625.out) hb); have n1_ := Aside0.mk (Kd.R_below (by (with_reducible repeat (first | apply Kd.R_alloc | apply Kd.R_drewN | apply Kd.R_drew)); exact HO629.out) hb); have n2_ := Aside0.mk (Kd.R_below (by (with_reducible repeat (first | apply Kd.R_alloc | apply Kd.R_drewN | apply Kd.R_drew)); exact HO633.out) hb); have n3_ := Aside0.mk (below_step (by repeat (first | (with_reducible first | exact HB.out | apply below_alloc | apply pw_below_drewN | apply below_drew1) | exact HB.out)) hb); clear HO625; clear HO629; clear HO633; clear HB; have HO625 := n0_; have HO629 := n1_; have HO633 := n2_; have HB := n3_; clear n0_ n1_ n2_ n3_; (try clear hb); (try clear hb2); (try clear hk); (try clear hi))))
              go_meet
              case rel => exact ⟨_, (!t637), (by first | rfl | (simp; done) | (simp [*]; done)), H', ⟨by first | omega | exact Nat.le_refl _⟩, ⟨by (with_reducible repeat (first | apply Kd.S_alloc | apply Kd.S_drewN | apply Kd.S_drew)); exact Kd.S_mono HO625.out (fun _ hk => ⟨hk.1.2, hk.2⟩)⟩, ⟨by (with_reducible repeat (first | apply Kd.R_alloc | apply Kd.R_drewN | apply Kd.R_drew)); exact Kd.R_mono HO629.out (fun _ hk => hk.2)⟩, ⟨by (with_reducible repeat (first | apply Kd.R_alloc | apply Kd.R_drewN | apply Kd.R_drew)); exact Kd.R_mono HO633.out (fun _ hk => hk.2)⟩, ⟨by repeat (first | (with_reducible first | exact HB.out | apply below_alloc | apply pw_below_drewN | apply below_drew1) | exact HB.out)⟩⟩
            · rw [if_neg c21] at H
              have c21b0 : (t631 == 5) = false := beq_eq_false_iff_ne.mpr c21
              have c21b1 : (t631 != 5) = true := bne_iff_ne.mpr c21
              have H' := Aside0.mk H
              clear H
              obtain ⟨Ao26, co26, eo26⟩ := Kd.R_slice HO629.out
              subst eo26
              go_wp2_with (first | (go_at_call 26; (with_reducible refine (gampref07_Permutation.calls k _ _ t626 (t623.length : Int) true _ ?side1 ?side2 A12.out).mono ?_); (case side1 => repeat (first | exact (Kd.R_reads' HO629.out).2.2 | (with_reducible refine Kd.C_alloc ?_ _) | (with_reducible refine Kd.C_drewN ?_ _) | (with_reducible refine Kd.C_drew ?_))); (case side2 => exact (Kd.R_reads' HO629.out).2.1); rintro e w' ⟨rfl, ⟨nd, rfl⟩⟩; (try first | exact ⟨rfl, _, World.drewN_drewN _ _ _⟩ | exact ⟨rfl, _, Eq.trans (World.drewN_drewN _ _ _) (congrArg (World.drewN _) (Nat.add_assoc _ _ _))⟩)) | (go_at_call 22; (with_reducible refine (gampref07_Holds.calls k _ _ t623 _ _ t626 true _ ?side1 ?side2 ?side3 ?side4 A14.out).mono ?_); (case side1 => repeat (first | exact (Kd.S_reads' HO625.out).2.2 | (with_reducible refine Kd.C_alloc ?_ _) | (with_reducible refine Kd.C_drewN ?_ _) | (with_reducible refine Kd.C_drew ?_))); (case side2 => exact (Kd.S_reads' HO625.out).2.1); (case side3 => repeat (first | exact (Kd.R_reads' HO629.out).2.2 | (with_reducible refine Kd.C_alloc ?_ _) | (with_reducible refine Kd.C_drewN ?_ _) | (with_reducible refine Kd.C_drew ?_))); (case side4 => exact (Kd.R_reads' HO629.out).2.1); rintro e w27 ⟨rfl, hb⟩; have n0_ := Aside0.mk (Kd.S_below (by (with_reducible repeat (first | apply Kd.S_alloc | apply Kd.S_drewN | apply Kd.S_drew)); exact HO625.out) hb); have n1_ := Aside0.mk (Kd.R_below (by (with_reducible repeat (first | apply Kd.R_alloc | apply Kd.R_drewN | apply Kd.R_drew)); exact HO629.out) hb); have n2_ := Aside0.mk (Kd.R_below (by (with_reducible repeat (first | apply Kd.R_alloc | apply Kd.R_drewN | apply Kd.R_drew)); exact HO633.out) hb); have n3_ := Aside0.mk (below_step (by repeat (first | (with_reducible first | exact HB.out | apply below_alloc | apply pw_below_drewN | apply below_drew1) | exact HB.out)) hb); clear HO625; clear HO629; clear HO633; clear HB; have HO625 := n0_; have HO629 := n1_; have HO633 := n2_; have HB := n3_; clear n0_ n1_ n2_ n3_; (try clear hb); (try clear hb2); (try clear hk); (try clear hi)))
              repeat (go_quiet (first | (go_at_call 26; (with_reducible refine (gampref07_Permutation.calls k _ _ t626 (t623.length : Int) true _ ?side1 ?side2 A12.out).mono ?_); (case side1 => repeat (first | exact (Kd.R_reads' HO629.out).2.2 | (with_reducible refine Kd.C_alloc ?_ _) | (with_reducible refine Kd.C_drewN ?_ _) | (with_reducible refine Kd.C_drew ?_))); (case side2 => exact (Kd.R_reads' HO629.out).2.1); rintro e w' ⟨rfl, ⟨nd, rfl⟩⟩; (try first | exact ⟨rfl, _, World.drewN_drewN _ _ _⟩ | exact ⟨rfl, _, Eq.trans (World.drewN_drewN _ _ _) (congrArg (World.drewN _) (Nat.add_assoc _ _ _))⟩)) | (go_at_call 22; (with_reducible refine (gampref07_Holds.calls k _ _ t623 _ _ t626 true _ ?side1 ?side2 ?side3 ?side4 A14.out).mono ?_); (case side1 => repeat (first | exact (Kd.S_reads' HO625.out).2.2 | (with_reducible refine Kd.C_alloc ?_ _) | (with_reducible refine Kd.C_drewN ?_ _) | (with_reducible refine Kd.C_drew ?_))); (case side2 => exact (Kd.S_reads' HO625.out).2.1); (case side3 => repeat (first | exact (Kd.R_reads' HO629.out).2.2 | (with_reducible refine Kd.C_alloc ?_ _) | (with_reducible refine Kd.C_drewN ?_ _) | (with_reducible refine Kd.C_drew ?_))); (case side4 => exact (Kd.R_reads' HO629.out).2.1); rintro e w27 ⟨rfl, hb⟩; have n0_ := Aside0.mk (Kd.S_below (by (with_reducible repeat (first | apply Kd.S_alloc | apply Kd.S_drewN | apply Kd.S_drew)); exact HO625.out) hb); have n1_ := Aside0.mk (Kd.R_below (by (with_reducible repeat (first | apply Kd.R_alloc | apply Kd.R_drewN | apply Kd.R_drew)); exact HO629.out) hb); have n2_ := Aside0.mk (Kd.R_below (by (with_reducible repeat (first | apply Kd.R_alloc | apply Kd.R_drewN | apply Kd.R_drew)); exact HO633.out) hb); have n3_ := Aside0.mk (below_step (by repeat (first | (with_reducible first | exact HB.out | apply below_alloc | apply pw_below_drewN | apply below_drew1) | exact HB.out)) hb); clear HO625; clear HO629; clear HO633; clear HB; have HO625 := n0_; have HO629 := n1_; have HO633 := n2_; have HB := n3_; clear n0_ n1_ n2_ n3_; (try clear hb); (try clear hb2); (try clear hk); (try clear hi))); try go_wp2_with (first | (go_at_call 26; (with_reducible refine (gampref07_Permutation.calls k _ _ t626 (t623.length : Int) true _ ?side1 ?side2 A12.out).mono ?_); (case side1 => repeat (first | exact (Kd.R_reads' HO629.out).2.2 | (with_reducible refine Kd.C_alloc ?_ _) | (with_reducible refine Kd.C_drewN ?_ _) | (with_reducible refine Kd.C_drew ?_))); (case side2 => exact (Kd.R_reads' HO629.out).2.1); rintro e w' ⟨rfl, ⟨nd, rfl⟩⟩; (try first | exact ⟨rfl, _, World.drewN_drewN _ _ _⟩ | exact ⟨rfl, _, Eq.trans (World.drewN_drewN _ _ _) (congrArg (World.drewN _) (Nat.add_assoc _ _ _))⟩)) | (go_at_call 22; (with_reducible refine (gampref07_Holds.calls k _ _ t623 _ _ t626 true _ ?side1 ?side2 ?side3 ?side4 A14.out).mono ?_); (case side1 => repeat (first | exact (Kd.S_reads' HO625.out).2.2 | (with_reducible refine Kd.C_alloc ?_ _) | (with_reducible refine Kd.C_drewN ?_ _) | (with_reducible refine Kd.C_drew ?_))); (case side2 => exact (Kd.S_reads' HO625.out).2.1); (case side3 => repeat (first | exact (Kd.R_reads' HO629.out).2.2 | (with_reducible refine Kd.C_alloc ?_ _) | (with_reducible refine Kd.C_drewN ?_ _) | (with_reducible refine Kd.C_drew ?_))); (case side4 => exact (Kd.R_reads' HO629.out).2.1); rintro e w27 ⟨rfl, hb⟩; have n0_ := Aside0.mk (Kd.S_below (by (with_reducible repeat (first | apply Kd.S_alloc | apply Kd.S_drewN | apply Kd.S_drew)); exact HO625.out) hb); have n1_ := Aside0.mk (Kd.R_below (by (with_reducible repeat (first | apply Kd.R_alloc | apply Kd.R_drewN | apply Kd.R_drew)); exact HO629.out) hb); have n2_ := Aside0.mk (Kd.R_below (by (with_reducible repeat (first | apply Kd.R_alloc | apply Kd.R_drewN | apply Kd.R_drew)); exact HO633.out) hb); have n3_ := Aside0.mk (below_step (by repeat (first | (with_reducible first | exact HB.out | apply below_alloc | apply pw_below_drewN | apply below_drew1) | exact HB.out)) hb); clear HO625; clear HO629; clear HO633; clear HB; have HO625 := n0_; have HO629 := n1_; have HO633 := n2_; have HB := n3_; clear n0_ n1_ n2_ n3_; (try clear hb); (try clear hb2); (try clear hk); (try clear hi))))
              go_meet
              case rel => exact ⟨_, (true), (by first | rfl | (simp; done) | (simp [*]; done)), H', ⟨by first | omega | exact Nat.le_refl _⟩, ⟨by (with_reducible repeat (first | apply Kd.S_alloc | apply Kd.S_drewN | apply Kd.S_drew)); exact Kd.S_mono HO625.out (fun _ hk => ⟨hk.1.2, hk.2⟩)⟩, ⟨by (with_reducible repeat (first | apply Kd.R_alloc | apply Kd.R_drewN | apply Kd.R_drew)); exact Kd.R_mono HO629.out (fun _ hk => hk.2)⟩, ⟨by (with_reducible repeat (first | apply Kd.R_alloc | apply Kd.R_drewN | apply Kd.R_drew)); exact Kd.R_mono HO633.out (fun _ hk => hk.2)⟩, ⟨by repeat (first | (with_reducible first | exact HB.out | apply below_alloc | apply pw_below_drewN | apply below_drew1) | exact HB.out)⟩⟩
        · replace c15 := Bool.eq_false_iff.mpr c15
          subst c15
          have H1 : (gamplaw07_PairEven.j0 k t623 t626 t630 t631 true) = some r := by rw [if_neg (show ¬ (false = true) by decide)] at H; exact H
          clear H
          have H := H1
          clear H1
          have H' := Aside0.mk H
          clear H
          obtain ⟨Ao28, co28, eo28⟩ := Kd.R_slice HO629.out
          subst eo28
          go_wp2_with (first | (go_at_call 26; (with_reducible refine (gampref07_Permutation.calls k _ _ t626 (t623.length : Int) true _ ?side1 ?side2 A12.out).mono ?_); (case side1 => repeat (first | exact (Kd.R_reads' HO629.out).2.2 | (with_reducible refine Kd.C_alloc ?_ _) | (with_reducible refine Kd.C_drewN ?_ _) | (with_reducible refine Kd.C_drew ?_))); (case side2 => exact (Kd.R_reads' HO629.out).2.1); rintro e w' ⟨rfl, ⟨nd, rfl⟩⟩; (try first | exact ⟨rfl, _, World.drewN_drewN _ _ _⟩ | exact ⟨rfl, _, Eq.trans (World.drewN_drewN _ _ _) (congrArg (World.drewN _) (Nat.add_assoc _ _ _))⟩)) | (go_at_call 22; (with_reducible refine (gampref07_Holds.calls k _ _ t623 _ _ t626 false _ ?side1 ?side2 ?side3 ?side4 A14.out).mono ?_); (case side1 => repeat (first | exact (Kd.S_reads' HO625.out).2.2 | (with_reducible refine Kd.C_alloc ?_ _) | (with_reducible refine Kd.C_drewN ?_ _) | (with_reducible refine Kd.C_drew ?_))); (case side2 => exact (Kd.S_reads' HO625.out).2.1); (case side3 => repeat (first | exact (Kd.R_reads' HO629.out).2.2 | (with_reducible refine Kd.C_alloc ?_ _) | (with_reducible refine Kd.C_drewN ?_ _) | (with_reducible refine Kd.C_drew ?_))); (case side4 => exact (Kd.R_reads' HO629.out).2.1); rintro e w29 ⟨rfl, hb⟩; have n0_ := Aside0.mk (Kd.S_below (by (with_reducible repeat (first | apply Kd.S_alloc | apply Kd.S_drewN | apply Kd.S_drew)); exact HO625.out) hb); have n1_ := Aside0.mk (Kd.R_below (by (with_reducible repeat (first | apply Kd.R_alloc | apply Kd.R_drewN | apply Kd.R_drew)); exact HO629.out) hb); have n2_ := Aside0.mk (Kd.R_below (by (with_reducible repeat (first | apply Kd.R_alloc | apply Kd.R_drewN | apply Kd.R_drew)); exact HO633.out) hb); have n3_ := Aside0.mk (below_step (by repeat (first | (with_reducible first | exact HB.out | apply below_alloc | apply pw_below_drewN | apply below_drew1) | exact HB.out)) hb); clear HO625; clear HO629; clear HO633; clear HB; have HO625 := n0_; have HO629 := n1_; have HO633 := n2_; have HB := n3_; clear n0_ n1_ n2_ n3_; (try clear hb); (try clear hb2); (try clear hk); (try clear hi)))
          repeat (go_quiet (first | (go_at_call 26; (with_reducible refine (gampref07_Permutation.calls k _ _ t626 (t623.length : Int) true _ ?side1 ?side2 A12.out).mono ?_); (case side1 => repeat (first | exact (Kd.R_reads' HO629.out).2.2 | (with_reducible refine Kd.C_alloc ?_ _) | (with_reducible refine Kd.C_drewN ?_ _) | (with_reducible refine Kd.C_drew ?_))); (case side2 => exact (Kd.R_reads' HO629.out).2.1); rintro e w' ⟨rfl, ⟨nd, rfl⟩⟩; (try first | exact ⟨rfl, _, World.drewN_drewN _ _ _⟩ | exact ⟨rfl, _, Eq.trans (World.drewN_drewN _ _ _) (congrArg (World.drewN _) (Nat.add_assoc _ _ _))⟩)) | (go_at_call 22; (with_reducible refine (gampref07_Holds.calls k _ _ t623 _ _ t626 false _ ?side1 ?side2 ?side3 ?side4 A14.out).mono ?_); (case side1 => repeat (first | exact (Kd.S_reads' HO625.out).2.2 | (with_reducible refine Kd.C_alloc ?_ _) | (with_reducible refine Kd.C_drewN ?_ _) | (with_reducible refine Kd.C_drew ?_))); (case side2 => exact (Kd.S_reads' HO625.out).2.1); (case side3 => repeat (first | exact (Kd.R_reads' HO629.out).2.2 | (with_reducible refine Kd.C_alloc ?_ _) | (with_reducible refine Kd.C_drewN ?_ _) | (with_reducible refine Kd.C_drew ?_))); (case side4 => exact (Kd.R_reads' HO629.out).2.1); rintro e w29 ⟨rfl, hb⟩; have n0_ := Aside0.mk (Kd.S_below (by (with_reducible repeat (first | apply Kd.S_alloc | apply Kd.S_drewN | apply Kd.S_drew)); exact HO625.out) hb); have n1_ := Aside0.mk (Kd.R_below (by (with_reducible repeat (first | apply Kd.R_alloc | apply Kd.R_drewN | apply Kd.R_drew)); exact HO629.out) hb); have n2_ := Aside0.mk (Kd.R_below (by (with_reducible repeat (first | apply Kd.R_alloc | apply Kd.R_drewN | apply Kd.R_drew)); exact HO633.out) hb); have n3_ := Aside0.mk (below_step (by repeat (first | (with_reducible first | exact HB.out | apply below_alloc | apply pw_below_drewN | apply below_drew1) | exact HB.out)) hb); clear HO625; clear HO629; clear HO633; clear HB; have HO625 := n0_; have HO629 := n1_; have HO633 := n2_; have HB := n3_; clear n0_ n1_ n2_ n3_; (try clear hb); (try clear hb2); (try clear hk); (try clear hi))); try go_wp2_with (first | (go_at_call 26; (with_reducible refine (gampref07_Permutation.calls k _ _ t626 (t623.length : Int) true _ ?side1 ?side2 A12.out).mono ?_); (case side1 => repeat (first | exact (Kd.R_reads' HO629.out).2.2 | (with_reducible refine Kd.C_alloc ?_ _) | (with_reducible refine Kd.C_drewN ?_ _) | (with_reducible refine Kd.C_drew ?_))); (case side2 => exact (Kd.R_reads' HO629.out).2.1); rintro e w' ⟨rfl, ⟨nd, rfl⟩⟩; (try first | exact ⟨rfl, _, World.drewN_drewN _ _ _⟩ | exact ⟨rfl, _, Eq.trans (World.drewN_drewN _ _ _) (congrArg (World.drewN _) (Nat.add_assoc _ _ _))⟩)) | (go_at_call 22; (with_reducible refine (gampref07_Holds.calls k _ _ t623 _ _ t626 false _ ?side1 ?side2 ?side3 ?side4 A14.out).mono ?_); (case side1 => repeat (first | exact (Kd.S_reads' HO625.out).2.2 | (with_reducible refine Kd.C_alloc ?_ _) | (with_reducible refine Kd.C_drewN ?_ _) | (with_reducible refine Kd.C_drew ?_))); (case side2 => exact (Kd.S_reads' HO625.out).2.1); (case side3 => repeat (first | exact (Kd.R_reads' HO629.out).2.2 | (with_reducible refine Kd.C_alloc ?_ _) | (with_reducible refine Kd.C_drewN ?_ _) | (with_reducible refine Kd.C_drew ?_))); (case side4 => exact (Kd.R_reads' HO629.out).2.1); rintro e w29 ⟨rfl, hb⟩; have n0_ := Aside0.mk (Kd.S_below (by (with_reducible repeat (first | apply Kd.S_alloc | apply Kd.S_drewN | apply Kd.S_drew)); exact HO625.out) hb); have n1_ := Aside0.mk (Kd.R_below (by (with_reducible repeat (first | apply Kd.R_alloc | apply Kd.R_drewN | apply Kd.R_drew)); exact HO629.out) hb); have n2_ := Aside0.mk (Kd.R_below (by (with_reducible repeat (first | apply Kd.R_alloc | apply Kd.R_drewN | apply Kd.R_drew)); exact HO633.out) hb); have n3_ := Aside0.mk (below_step (by repeat (first | (with_reducible first | exact HB.out | apply below_alloc | apply pw_below_drewN | apply below_drew1) | exact HB.out)) hb); clear HO625; clear HO629; clear HO633; clear HB; have HO625 := n0_; have HO629 := n1_; have HO633 := n2_; have HB := n3_; clear n0_ n1_ n2_ n3_; (try clear hb); (try clear hb2); (try clear hk); (try clear hi))))
          go_meet
          case rel => exact ⟨_, (true), (by first | rfl | (simp; done) | (simp [*]; done)), H', ⟨by first | omega | exact Nat.le_refl _⟩, ⟨by (with_reducible repeat (first | apply Kd.S_alloc | apply Kd.S_drewN | apply Kd.S_drew)); exact Kd.S_mono HO625.out (fun _ hk => ⟨hk.1.2, hk.2⟩)⟩, ⟨by (with_reducible repeat (first | apply Kd.R_alloc | apply Kd.R_drewN | apply Kd.R_drew)); exact Kd.R_mono HO629.out (fun _ hk => hk.2)⟩, ⟨by (with_reducible repeat (first | apply Kd.R_alloc | apply Kd.R_drewN | apply Kd.R_drew)); exact Kd.R_mono HO633.out (fun _ hk => hk.2)⟩, ⟨by repeat (first | (with_reducible first | exact HB.out | apply below_alloc | apply pw_below_drewN | apply below_drew1) | exact HB.out)⟩⟩
      · replace c13 := Bool.eq_false_iff.mpr c13
        subst c13
        have H1 : (gamplaw07_PairEven.j0 k t623 t626 t630 t631 true) = some r := by rw [if_neg (show ¬ (false = true) by decide)] at H; exact H
        clear H
        have H := H1
        clear H1
        have H' := Aside0.mk H
        clear H
        obtain ⟨Ao30, co30, eo30⟩ := Kd.R_slice HO629.out
        subst eo30
        go_wp2_with (first | (go_at_call 26; (with_reducible refine (gampref07_Permutation.calls k _ _ t626 (t623.length : Int) false _ ?side1 ?side2 A12.out).mono ?_); (case side1 => repeat (first | exact (Kd.R_reads' HO629.out).2.2 | (with_reducible refine Kd.C_alloc ?_ _) | (with_reducible refine Kd.C_drewN ?_ _) | (with_reducible refine Kd.C_drew ?_))); (case side2 => exact (Kd.R_reads' HO629.out).2.1); rintro e w' ⟨rfl, ⟨nd, rfl⟩⟩; (try first | exact ⟨rfl, _, World.drewN_drewN _ _ _⟩ | exact ⟨rfl, _, Eq.trans (World.drewN_drewN _ _ _) (congrArg (World.drewN _) (Nat.add_assoc _ _ _))⟩)))
        repeat (go_quiet (first | (go_at_call 26; (with_reducible refine (gampref07_Permutation.calls k _ _ t626 (t623.length : Int) false _ ?side1 ?side2 A12.out).mono ?_); (case side1 => repeat (first | exact (Kd.R_reads' HO629.out).2.2 | (with_reducible refine Kd.C_alloc ?_ _) | (with_reducible refine Kd.C_drewN ?_ _) | (with_reducible refine Kd.C_drew ?_))); (case side2 => exact (Kd.R_reads' HO629.out).2.1); rintro e w' ⟨rfl, ⟨nd, rfl⟩⟩; (try first | exact ⟨rfl, _, World.drewN_drewN _ _ _⟩ | exact ⟨rfl, _, Eq.trans (World.drewN_drewN _ _ _) (congrArg (World.drewN _) (Nat.add_assoc _ _ _))⟩))); try go_wp2_with (first | (go_at_call 26; (with_reducible refine (gampref07_Permutation.calls k _ _ t626 (t623.length : Int) false _ ?side1 ?side2 A12.out).mono ?_); (case side1 => repeat (first | exact (Kd.R_reads' HO629.out).2.2 | (with_reducible refine Kd.C_alloc ?_ _) | (with_reducible refine Kd.C_drewN ?_ _) | (with_reducible refine Kd.C_drew ?_))); (case side2 => exact (Kd.R_reads' HO629.out).2.1); rintro e w' ⟨rfl, ⟨nd, rfl⟩⟩; (try first | exact ⟨rfl, _, World.drewN_drewN _ _ _⟩ | exact ⟨rfl, _, Eq.trans (World.drewN_drewN _ _ _) (congrArg (World.drewN _) (Nat.add_assoc _ _ _))⟩))))
        go_meet
        case rel => exact ⟨_, (true), (by first | rfl | (simp; done) | (simp [*]; done)), H', ⟨by first | omega | exact Nat.le_refl _⟩, ⟨by (with_reducible repeat (first | apply Kd.S_alloc | apply Kd.S_drewN | apply Kd.S_drew)); exact Kd.S_mono HO625.out (fun _ hk => ⟨hk.1.2, hk.2⟩)⟩, ⟨by (with_reducible repeat (first | apply Kd.R_alloc | apply Kd.R_drewN | apply Kd.R_drew)); exact Kd.R_mono HO629.out (fun _ hk => hk.2)⟩, ⟨by (with_reducible repeat (first | apply Kd.R_alloc | apply Kd.R_drewN | apply Kd.R_drew)); exact Kd.R_mono HO633.out (fun _ hk => hk.2)⟩, ⟨by repeat (first | (with_reducible first | exact HB.out | apply below_alloc | apply pw_below_drewN | apply below_drew1) | exact HB.out)⟩⟩
    · rw [if_neg c11] at H
      have c11b0 : (t627 == 0) = false := beq_eq_false_iff_ne.mpr c11
      have c11b1 : (t627 != 0) = true := bne_iff_ne.mpr c11
      (first | rw [c11b0] | (simp only [i64_w, i32_w]; rw [c11b0]) | skip)
      have H' := Aside0.mk H
      clear H
      go_wp2
      repeat (go_quiet (fail); try go_wp2)
      go_meet
      case rel => exact ⟨_, (true), (by first | rfl | (simp; done) | (simp [*]; done)), H', ⟨by first | omega | exact Nat.le_refl _⟩, ⟨by (with_reducible repeat (first | apply Kd.S_alloc | apply Kd.S_drewN | apply Kd.S_drew)); exact Kd.S_mono HO625.out (fun _ hk => ⟨hk.1.2, hk.2⟩)⟩, ⟨by (with_reducible repeat (first | apply Kd.R_alloc | apply Kd.R_drewN | apply Kd.R_drew)); exact Kd.R_mono HO629.out (fun _ hk => hk.2)⟩, ⟨by (with_reducible repeat (first | apply Kd.R_alloc | apply Kd.R_drewN | apply Kd.R_drew)); exact Kd.R_mono HO633.out (fun _ hk => hk.2)⟩, ⟨by repeat (first | (with_reducible first | exact HB.out | apply below_alloc | apply pw_below_drewN | apply below_drew1) | exact HB.out)⟩⟩
  case rest =>
    clear HC6
    try clear c1
    try clear c2
    try clear p2
    try clear c11
    try clear c11b0
    try clear c11b1
    try clear c13
    try clear c15
    try clear c16
    try clear c16b0
    try clear c16b1
    try clear c21
    try clear c21b0
    try clear c21b1
    obtain ⟨kq, x67_5, rfl, HA, HJ5, HO_5, HO_6, HO_8, HB⟩ := hcut
    cases kq with
    | zero => exact absurd HA.out (by simp [gamplaw07_PairEven.j0])
    | succ kj5 =>
      have H := HA.out
      clear HA
      simp only [gamplaw07_PairEven.j0] at H
      by_cases c31 : x67_5 = true
      · subst c31
        have H1 : (some false) = some r := by rw [if_pos rfl] at H; exact H
        clear H
        have H := H1
        clear H1
        obtain rfl := Option.some.inj H
        go_wp2
        repeat (go_quiet (fail); try go_wp2)
        go_ret
        exact ⟨by first | rfl | (simp [errW_none, errW_some] <;> rfl) | (simp [*, errW_none, errW_some] <;> rfl), by repeat (first | (with_reducible first | exact HB.out | apply below_alloc | apply pw_below_drewN | apply below_drew1) | exact HB.out)⟩
      · replace c31 := Bool.eq_false_iff.mpr c31
        subst c31
        have H1 : ((gampref07_Parties.f kj5 t626).bind fun t638 => (gamplaw07_PairEven.l0 kj5 t623 t630 t631 t638 0)) = some r := by rw [if_neg (show ¬ (false = true) by decide)] at H; exact H
        clear H
        have H := H1
        clear H1
        replace H := Option.bind_eq_some_iff.mp H
        obtain ⟨t638, A320, H⟩ := H
        replace H : (gamplaw07_PairEven.l0 kj5 t623 t630 t631 t638 0) = some r := H
        have A32 := Aside0.mk A320
        clear A320
        have H' := Aside0.mk H
        clear H
        obtain ⟨Ao33, co33, eo33⟩ := Kd.R_slice HO_6.out
        subst eo33
        go_wp2_with (first | (go_at_call 30; (with_reducible refine (gampref07_Parties.calls kj5 _ _ t626 t638 _ ?side1 ?side2 A32.out).mono ?_); (case side1 => repeat (first | exact (Kd.R_reads' HO_6.out).2.2 | (with_reducible refine Kd.C_alloc ?_ _) | (with_reducible refine Kd.C_drewN ?_ _) | (with_reducible refine Kd.C_drew ?_))); (case side2 => exact (Kd.R_reads' HO_6.out).2.1); rintro e w34 ⟨v639, rfl, ho0, hb⟩; have n0_ := Aside0.mk (Kd.S_elder' (by (with_reducible repeat (first | apply Kd.S_alloc | apply Kd.S_drewN | apply Kd.S_drew)); exact HO_5.out) (Kd.S_base ho0) hb); have n1_ := Aside0.mk (Kd.R_below (by (with_reducible repeat (first | apply Kd.R_alloc | apply Kd.R_drewN | apply Kd.R_drew)); exact HO_6.out) hb); have n2_ := Aside0.mk (Kd.R_below (by (with_reducible repeat (first | apply Kd.R_alloc | apply Kd.R_drewN | apply Kd.R_drew)); exact HO_8.out) hb); have n3_ := Aside0.mk (Kd.S_lower (Kd.S_new' (Kd.S_new' (Kd.S_new' ho0 (Kd.S_lt (by (with_reducible repeat (first | apply Kd.S_alloc | apply Kd.S_drewN | apply Kd.S_drew)); exact HO_5.out))) (Kd.R_lt (by (with_reducible repeat (first | apply Kd.R_alloc | apply Kd.R_drewN | apply Kd.R_drew)); exact HO_6.out))) (Kd.R_lt (by (with_reducible repeat (first | apply Kd.R_alloc | apply Kd.R_drewN | apply Kd.R_drew)); exact HO_8.out))) (below_size (by repeat (first | (with_reducible first | exact HB.out | apply below_alloc | apply pw_below_drewN | apply below_drew1) | exact HB.out)))); have n4_ := Aside0.mk (below_step (by repeat (first | (with_reducible first | exact HB.out | apply below_alloc | apply pw_below_drewN | apply below_drew1) | exact HB.out)) hb); clear HO_5; clear HO_6; clear HO_8; clear HB; have HO_5 := n0_; have HO_6 := n1_; have HO_8 := n2_; have HO640 := n3_; have HB := n4_; clear n0_ n1_ n2_ n3_ n4_; (try clear hb); (try clear hb2); (try clear hk); (try clear hi); (try clear ho0)))
        repeat (go_quiet (first | (go_at_call 30; (with_reducible refine (gampref07_Parties.calls kj5 _ _ t626 t638 _ ?side1 ?side2 A32.out).mono ?_); (case side1 => repeat (first | exact (Kd.R_reads' HO_6.out).2.2 | (with_reducible refine Kd.C_alloc ?_ _) | (with_reducible refine Kd.C_drewN ?_ _) | (with_reducible refine Kd.C_drew ?_))); (case side2 => exact (Kd.R_reads' HO_6.out).2.1); rintro e w34 ⟨v639, rfl, ho0, hb⟩; have n0_ := Aside0.mk (Kd.S_elder' (by (with_reducible repeat (first | apply Kd.S_alloc | apply Kd.S_drewN | apply Kd.S_drew)); exact HO_5.out) (Kd.S_base ho0) hb); have n1_ := Aside0.mk (Kd.R_below (by (with_reducible repeat (first | apply Kd.R_alloc | apply Kd.R_drewN | apply Kd.R_drew)); exact HO_6.out) hb); have n2_ := Aside0.mk (Kd.R_below (by (with_reducible repeat (first | apply Kd.R_alloc | apply Kd.R_drewN | apply Kd.R_drew)); exact HO_8.out) hb); have n3_ := Aside0.mk (Kd.S_lower (Kd.S_new' (Kd.S_new' (Kd.S_new' ho0 (Kd.S_lt (by (with_reducible repeat (first | apply Kd.S_alloc | apply Kd.S_drewN | apply Kd.S_drew)); exact HO_5.out))) (Kd.R_lt (by (with_reducible repeat (first | apply Kd.R_alloc | apply Kd.R_drewN | apply Kd.R_drew)); exact HO_6.out))) (Kd.R_lt (by (with_reducible repeat (first | apply Kd.R_alloc | apply Kd.R_drewN | apply Kd.R_drew)); exact HO_8.out))) (below_size (by repeat (first | (with_reducible first | exact HB.out | apply below_alloc | apply pw_below_drewN | apply below_drew1) | exact HB.out)))); have n4_ := Aside0.mk (below_step (by repeat (first | (with_reducible first | exact HB.out | apply below_alloc | apply pw_below_drewN | apply below_drew1) | exact HB.out)) hb); clear HO_5; clear HO_6; clear HO_8; clear HB; have HO_5 := n0_; have HO_6 := n1_; have HO_8 := n2_; have HO640 := n3_; have HB := n4_; clear n0_ n1_ n2_ n3_ n4_; (try clear hb); (try clear hb2); (try clear hk); (try clear hi); (try clear ho0))); try go_wp2_with (first | (go_at_call 30; (with_reducible refine (gampref07_Parties.calls kj5 _ _ t626 t638 _ ?side1 ?side2 A32.out).mono ?_); (case side1 => repeat (first | exact (Kd.R_reads' HO_6.out).2.2 | (with_reducible refine Kd.C_alloc ?_ _) | (with_reducible refine Kd.C_drewN ?_ _) | (with_reducible refine Kd.C_drew ?_))); (case side2 => exact (Kd.R_reads' HO_6.out).2.1); rintro e w34 ⟨v639, rfl, ho0, hb⟩; have n0_ := Aside0.mk (Kd.S_elder' (by (with_reducible repeat (first | apply Kd.S_alloc | apply Kd.S_drewN | apply Kd.S_drew)); exact HO_5.out) (Kd.S_base ho0) hb); have n1_ := Aside0.mk (Kd.R_below (by (with_reducible repeat (first | apply Kd.R_alloc | apply Kd.R_drewN | apply Kd.R_drew)); exact HO_6.out) hb); have n2_ := Aside0.mk (Kd.R_below (by (with_reducible repeat (first | apply Kd.R_alloc | apply Kd.R_drewN | apply Kd.R_drew)); exact HO_8.out) hb); have n3_ := Aside0.mk (Kd.S_lower (Kd.S_new' (Kd.S_new' (Kd.S_new' ho0 (Kd.S_lt (by (with_reducible repeat (first | apply Kd.S_alloc | apply Kd.S_drewN | apply Kd.S_drew)); exact HO_5.out))) (Kd.R_lt (by (with_reducible repeat (first | apply Kd.R_alloc | apply Kd.R_drewN | apply Kd.R_drew)); exact HO_6.out))) (Kd.R_lt (by (with_reducible repeat (first | apply Kd.R_alloc | apply Kd.R_drewN | apply Kd.R_drew)); exact HO_8.out))) (below_size (by repeat (first | (with_reducible first | exact HB.out | apply below_alloc | apply pw_below_drewN | apply below_drew1) | exact HB.out)))); have n4_ := Aside0.mk (below_step (by repeat (first | (with_reducible first | exact HB.out | apply below_alloc | apply pw_below_drewN | apply below_drew1) | exact HB.out)) hb); clear HO_5; clear HO_6; clear HO_8; clear HB; have HO_5 := n0_; have HO_6 := n1_; have HO_8 := n2_; have HO640 := n3_; have HB := n4_; clear n0_ n1_ n2_ n3_ n4_; (try clear hb); (try clear hb2); (try clear hk); (try clear hi); (try clear ho0))))
        go_loopg [11] kj5 (fun kq v11 w' => ∃ (x11_2 : Int), v11 = .int .i64 x11_2 ∧ Aside0 (gamplaw07_PairEven.l0 kq t623 t630 t631 t638 x11_2 = some r) ∧ Aside0 (kq ≤ kj5) ∧ Aside0 (Kd.S (Kd.slice 3 (Kd.int .i64)) 24 w' w.heap.size (fun k_ => some k_ ≠ (v632 : Value).ownBlock ∧ some k_ ≠ (v639 : Value).ownBlock) (.slice Ao8 t623.length co8) t623) ∧ Aside0 (Kd.R (Kd.int .i64) 3 w' w.heap.size (fun _ => True) v632 t630) ∧ Aside0 (Kd.S (Kd.slice 3 (Kd.int .i64)) 24 w' w.heap.size (fun k_ => some k_ ≠ ((.slice Ao8 t623.length co8) : Value).ownBlock ∧ some k_ ≠ (v632 : Value).ownBlock) v639 t638) ∧ Aside0 (Below w.heap.size w w'))
        case atStart => exact ⟨(0), (by first | rfl | (simp; done) | (simp [*]; done)), H', ⟨Nat.le_refl _⟩, ⟨by (with_reducible repeat (first | apply Kd.S_alloc | apply Kd.S_drewN | apply Kd.S_drew)); exact Kd.S_mono HO_5.out (fun _ hk => ⟨hk.1.2, hk.2⟩)⟩, ⟨by (with_reducible repeat (first | apply Kd.R_alloc | apply Kd.R_drewN | apply Kd.R_drew)); exact Kd.R_mono HO_8.out (fun _ hk => trivial)⟩, ⟨by (with_reducible repeat (first | apply Kd.S_alloc | apply Kd.S_drewN | apply Kd.S_drew)); exact Kd.S_mono HO640.out (fun _ hk => ⟨hk.1.1.2, hk.2⟩)⟩, ⟨by repeat (first | (with_reducible first | exact HB.out | apply below_alloc | apply pw_below_drewN | apply below_drew1) | exact HB.out)⟩⟩
        case round =>
          clear H'
          try clear c1
          try clear c2
          try clear p2
          try clear c3
          try clear c11
          try clear c11b0
          try clear c11b1
          try clear c13
          try clear c15
          try clear c16
          try clear c16b0
          try clear c16b1
          try clear c21
          try clear c21b0
          try clear c21b1
          try clear c31
          try clear p2
          obtain ⟨x11_2, rfl, HA, HK2, HO_5, HO_8, HO_10, HB⟩ := hrel
          cases gk with
          | zero => exact absurd HA.out (by simp [gamplaw07_PairEven.l0])
          | succ k2 =>
            have H := HA.out
            clear HA
            simp only [gamplaw07_PairEven.l0] at H
            by_cases c35 : x11_2 < (t638.length : Int)
            · rw [if_pos c35] at H
              have c35b0 : decide (x11_2 < (t638.length : Int)) = true := decide_eq_true c35
              clear c35
              by_cases c36 : 0 ≤ x11_2
              · rw [if_pos c36] at H
                have c36b0 : decide (0 ≤ x11_2) = true := decide_eq_true c36
                clear c36
                by_cases c37 : (((rd_L1 t638 x11_2).length : Int) % 2) = 1
                · rw [if_pos c37] at H
                  have c37b0 : ((((rd_L1 t638 x11_2).length : Int) % 2) == 1) = true := beq_iff_eq.mpr c37
                  have c37b1 : ((((rd_L1 t638 x11_2).length : Int) % 2) != 1) = false := bne_eq_false_iff_eq.mpr c37
                  clear c37
                  by_cases c38 : ((rd_L1 t638 x11_2).length : Int) > 1
                  · rw [if_pos c38] at H
                    have c38b0 : decide (1 < ((rd_L1 t638 x11_2).length : Int)) = true := decide_eq_true c38
                    have c38b1 : decide (1 < (rd_L1 t638 x11_2).length) = true := decide_eq_true (by omega)
                    clear c38
                    obtain rfl := Option.some.inj H
                    obtain ⟨Ao39, co39, eo39⟩ := Kd.S_slice HO_10.out
                    subst eo39
                    have p641 : 0 ≤ (x11_2 : Int) := of_decide_eq_true (by first | (with_reducible assumption) | assumption)
                    have q641 : x11_2 < (t638.length : Int) := of_decide_eq_true (by first | (with_reducible assumption) | assumption)
                    obtain ⟨ad641, A641_0, c641_0, e641, hx641_0, hl641_0, hi641_0⟩ := at_L1 (Kd.S_reads' HO_10.out).2.2 x11_2 p641 q641
                    cases e641
                    obtain ⟨ce641, hce641, hMe641, hcc641⟩ := Kd.S_get HO_10.out [] x11_2 p641 (by first | exact q641 | exact of_decide_eq_true (by first | (with_reducible assumption) | assumption) | (have e_ := (Kd.S_reads' HO_10.out).1; omega))
                    obtain ⟨ve641_0, rfl, ge641_0⟩ := hMe641
                    have hv641_0 := hcc641 0 _ rfl
                    rw [Nat.add_zero, show ((Kd.slice 3 (Kd.int .i64))).sz = 1 from rfl, Nat.mul_one] at hv641_0
                    replace hv641_0 := Option.some.inj (hv641_0.symm.trans hx641_0)
                    rw [hv641_0] at ge641_0
                    have HL641_0 := Aside0.mk (show Kd.R (Kd.int .i64) 3 _ _ _ _ (rd_L1 t638 x11_2) from ge641_0)
                    clear hv641_0 ge641_0
                    clear hcc641 hce641
                    have HR641_0 := Aside0.mk hi641_0
                    have HC641_0 := Aside0.mk hl641_0
                    clear hi641_0 hl641_0
                    replace p641 := eq_true p641
                    replace q641 := eq_true q641
                    have p642 : 0 ≤ (x11_2 : Int) := of_decide_eq_true (by first | (with_reducible assumption) | assumption)
                    have q642 : x11_2 < (t638.length : Int) := of_decide_eq_true (by first | (with_reducible assumption) | assumption)
                    obtain ⟨ad642, A642_0, c642_0, e642, hx642_0, hl642_0, hi642_0⟩ := at_L1 (Kd.S_reads' HO_10.out).2.2 x11_2 p642 q642
                    obtain rfl : ad641 = ad642 := (by injection e642)
                    obtain ⟨ce642, hce642, hMe642, hcc642⟩ := Kd.S_get HO_10.out [] x11_2 p642 (by first | exact q642 | exact of_decide_eq_true (by first | (with_reducible assumption) | assumption) | (have e_ := (Kd.S_reads' HO_10.out).1; omega))
                    obtain ⟨ve642_0, rfl, ge642_0⟩ := hMe642
                    have hv642_0 := hcc642 0 _ rfl
                    rw [Nat.add_zero, show ((Kd.slice 3 (Kd.int .i64))).sz = 1 from rfl, Nat.mul_one] at hv642_0
                    replace hv642_0 := Option.some.inj (hv642_0.symm.trans hx642_0)
                    rw [hv642_0] at ge642_0
                    have HL642_0 := Aside0.mk (show Kd.R (Kd.int .i64) 3 _ _ _ _ (rd_L1 t638 x11_2) from ge642_0)
                    clear hv642_0 ge642_0
                    clear hcc642 hce642
                    have HR642_0 := Aside0.mk hi642_0
                    have HC642_0 := Aside0.mk hl642_0
                    clear hi642_0 hl642_0
                    replace p642 := eq_true p642
                    replace q642 := eq_true q642
                    have ea_ := Option.some.inj (hx641_0.symm.trans hx642_0)
                    injection ea_ with ea_ en_ ec_
                    subst ea_
                    subst ec_
                    clear en_
                    go_wp2
                    repeat (go_quiet (fail); try go_wp2)
                    go_ret
                    exact ⟨by first | rfl | (simp [errW_none, errW_some] <;> rfl) | (simp [*, errW_none, errW_some] <;> rfl), by repeat (first | (with_reducible first | exact HB.out | apply below_alloc | apply pw_below_drewN | apply below_drew1) | exact HB.out)⟩
                  · rw [if_neg c38] at H
                    have c38b0 : decide (1 < ((rd_L1 t638 x11_2).length : Int)) = false := decide_eq_false c38
                    have c38b1 : decide (1 < (rd_L1 t638 x11_2).length) = false := decide_eq_false (by omega)
                    clear c38
                    have H' := Aside0.mk H
                    clear H
                    obtain ⟨Ao40, co40, eo40⟩ := Kd.S_slice HO_10.out
                    subst eo40
                    have p641 : 0 ≤ (x11_2 : Int) := of_decide_eq_true (by first | (with_reducible assumption) | assumption)
                    have q641 : x11_2 < (t638.length : Int) := of_decide_eq_true (by first | (with_reducible assumption) | assumption)
                    obtain ⟨ad641, A641_0, c641_0, e641, hx641_0, hl641_0, hi641_0⟩ := at_L1 (Kd.S_reads' HO_10.out).2.2 x11_2 p641 q641
                    cases e641
                    obtain ⟨ce641, hce641, hMe641, hcc641⟩ := Kd.S_get HO_10.out [] x11_2 p641 (by first | exact q641 | exact of_decide_eq_true (by first | (with_reducible assumption) | assumption) | (have e_ := (Kd.S_reads' HO_10.out).1; omega))
                    obtain ⟨ve641_0, rfl, ge641_0⟩ := hMe641
                    have hv641_0 := hcc641 0 _ rfl
                    rw [Nat.add_zero, show ((Kd.slice 3 (Kd.int .i64))).sz = 1 from rfl, Nat.mul_one] at hv641_0
                    replace hv641_0 := Option.some.inj (hv641_0.symm.trans hx641_0)
                    rw [hv641_0] at ge641_0
                    have HL641_0 := Aside0.mk (show Kd.R (Kd.int .i64) 3 _ _ _ _ (rd_L1 t638 x11_2) from ge641_0)
                    clear hv641_0 ge641_0
                    clear hcc641 hce641
                    have HR641_0 := Aside0.mk hi641_0
                    have HC641_0 := Aside0.mk hl641_0
                    clear hi641_0 hl641_0
                    replace p641 := eq_true p641
                    replace q641 := eq_true q641
                    have p642 : 0 ≤ (x11_2 : Int) := of_decide_eq_true (by first | (with_reducible assumption) | assumption)
                    have q642 : x11_2 < (t638.length : Int) := of_decide_eq_true (by first | (with_reducible assumption) | assumption)
                    obtain ⟨ad642, A642_0, c642_0, e642, hx642_0, hl642_0, hi642_0⟩ := at_L1 (Kd.S_reads' HO_10.out).2.2 x11_2 p642 q642
                    obtain rfl : ad641 = ad642 := (by injection e642)
                    obtain ⟨ce642, hce642, hMe642, hcc642⟩ := Kd.S_get HO_10.out [] x11_2 p642 (by first | exact q642 | exact of_decide_eq_true (by first | (with_reducible assumption) | assumption) | (have e_ := (Kd.S_reads' HO_10.out).1; omega))
                    obtain ⟨ve642_0, rfl, ge642_0⟩ := hMe642
                    have hv642_0 := hcc642 0 _ rfl
                    rw [Nat.add_zero, show ((Kd.slice 3 (Kd.int .i64))).sz = 1 from rfl, Nat.mul_one] at hv642_0
                    replace hv642_0 := Option.some.inj (hv642_0.symm.trans hx642_0)
                    rw [hv642_0] at ge642_0
                    have HL642_0 := Aside0.mk (show Kd.R (Kd.int .i64) 3 _ _ _ _ (rd_L1 t638 x11_2) from ge642_0)
                    clear hv642_0 ge642_0
                    clear hcc642 hce642
                    have HR642_0 := Aside0.mk hi642_0
                    have HC642_0 := Aside0.mk hl642_0
                    clear hi642_0 hl642_0
                    replace p642 := eq_true p642
                    replace q642 := eq_true q642
                    have ea_ := Option.some.inj (hx641_0.symm.trans hx642_0)
                    injection ea_ with ea_ en_ ec_
                    subst ea_
                    subst ec_
                    clear en_
                    go_wp2
                    repeat (go_quiet (fail); try go_wp2)
                    go_roundg k2
                    case measure => have := HJ5.out; have := HK2.out; omega
                    case rel => exact ⟨(wrap64 (x11_2 + 1)), (by first | rfl | (simp; done) | (simp [*]; done)), H', ⟨by have := HJ5.out; have := HK2.out; omega⟩, ⟨by (with_reducible repeat (first | apply Kd.S_alloc | apply Kd.S_drewN | apply Kd.S_drew)); exact HO_5.out⟩, ⟨by (with_reducible repeat (first | apply Kd.R_alloc | apply Kd.R_drewN | apply Kd.R_drew)); exact HO_8.out⟩, ⟨by (with_reducible repeat (first | apply Kd.S_alloc | apply Kd.S_drewN | apply Kd.S_drew)); exact HO_10.out⟩, ⟨by repeat (first | (with_reducible first | exact HB.out | apply below_alloc | apply pw_below_drewN | apply below_drew1) | exact HB.out)⟩⟩
                · rw [if_neg c37] at H
                  have c37b0 : ((((rd_L1 t638 x11_2).length : Int) % 2) == 1) = false := beq_eq_false_iff_ne.mpr c37
                  have c37b1 : ((((rd_L1 t638 x11_2).length : Int) % 2) != 1) = true := bne_iff_ne.mpr c37
                  have H' := Aside0.mk H
                  clear H
                  obtain ⟨Ao41, co41, eo41⟩ := Kd.S_slice HO_10.out
                  subst eo41
                  have p641 : 0 ≤ (x11_2 : Int) := of_decide_eq_true (by first | (with_reducible assumption) | assumption)
                  have q641 : x11_2 < (t638.length : Int) := of_decide_eq_true (by first | (with_reducible assumption) | assumption)
                  obtain ⟨ad641, A641_0, c641_0, e641, hx641_0, hl641_0, hi641_0⟩ := at_L1 (Kd.S_reads' HO_10.out).2.2 x11_2 p641 q641
                  cases e641
                  obtain ⟨ce641, hce641, hMe641, hcc641⟩ := Kd.S_get HO_10.out [] x11_2 p641 (by first | exact q641 | exact of_decide_eq_true (by first | (with_reducible assumption) | assumption) | (have e_ := (Kd.S_reads' HO_10.out).1; omega))
                  obtain ⟨ve641_0, rfl, ge641_0⟩ := hMe641
                  have hv641_0 := hcc641 0 _ rfl
                  rw [Nat.add_zero, show ((Kd.slice 3 (Kd.int .i64))).sz = 1 from rfl, Nat.mul_one] at hv641_0
                  replace hv641_0 := Option.some.inj (hv641_0.symm.trans hx641_0)
                  rw [hv641_0] at ge641_0
                  have HL641_0 := Aside0.mk (show Kd.R (Kd.int .i64) 3 _ _ _ _ (rd_L1 t638 x11_2) from ge641_0)
                  clear hv641_0 ge641_0
                  clear hcc641 hce641
                  have HR641_0 := Aside0.mk hi641_0
                  have HC641_0 := Aside0.mk hl641_0
                  clear hi641_0 hl641_0
                  replace p641 := eq_true p641
                  replace q641 := eq_true q641
                  go_wp2
                  repeat (go_quiet (fail); try go_wp2)
                  go_roundg k2
                  case measure => have := HJ5.out; have := HK2.out; omega
                  case rel => exact ⟨(wrap64 (x11_2 + 1)), (by first | rfl | (simp; done) | (simp [*]; done)), H', ⟨by have := HJ5.out; have := HK2.out; omega⟩, ⟨by (with_reducible repeat (first | apply Kd.S_alloc | apply Kd.S_drewN | apply Kd.S_drew)); exact HO_5.out⟩, ⟨by (with_reducible repeat (first | apply Kd.R_alloc | apply Kd.R_drewN | apply Kd.R_drew)); exact HO_8.out⟩, ⟨by (with_reducible repeat (first | apply Kd.S_alloc | apply Kd.S_drewN | apply Kd.S_drew)); exact HO_10.out⟩, ⟨by repeat (first | (with_reducible first | exact HB.out | apply below_alloc | apply pw_below_drewN | apply below_drew1) | exact HB.out)⟩⟩
              · rw [if_neg c36] at H
                exact absurd H (by simp)
            · rw [if_neg c35] at H
              have c35b0 : decide (x11_2 < (t638.length : Int)) = false := decide_eq_false c35
              clear c35
              have HC42 := Aside0.mk H
              clear H
              obtain ⟨Ao43, co43, eo43⟩ := Kd.S_slice HO_10.out
              subst eo43
              go_upto_region 12 with (fail)
              repeat (go_quiet (fail); go_upto_region 12 with (fail))
              go_cut [101] (fun v101 wc => ∃ (kq : Nat) (x101_41 : Bool), v101 = .bool x101_41 ∧ Aside0 (gamplaw07_PairEven.j2 kq t623 t630 t638 x101_41 = some r) ∧ Aside0 (kq ≤ k2) ∧ Aside0 (Kd.S (Kd.slice 3 (Kd.int .i64)) 24 wc w.heap.size (fun k_ => some k_ ≠ (v632 : Value).ownBlock ∧ some k_ ≠ ((.slice Ao43 t638.length co43) : Value).ownBlock) (.slice Ao8 t623.length co8) t623) ∧ Aside0 (Kd.R (Kd.int .i64) 3 wc w.heap.size (fun _ => True) v632 t630) ∧ Aside0 (Kd.S (Kd.slice 3 (Kd.int .i64)) 24 wc w.heap.size (fun k_ => some k_ ≠ ((.slice Ao8 t623.length co8) : Value).ownBlock ∧ some k_ ≠ (v632 : Value).ownBlock) (.slice Ao43 t638.length co43) t638) ∧ Aside0 (Below w.heap.size w wc))
              case first =>
                have H := HC42.out
                clear HC42
                by_cases c44 : t631 = 0
                · rw [if_pos c44] at H
                  have c44b0 : (t631 == 0) = true := beq_iff_eq.mpr c44
                  have c44b1 : (t631 != 0) = false := bne_eq_false_iff_eq.mpr c44
                  clear c44
                  (first | rw [c44b0] | (simp only [i64_w, i32_w]; rw [c44b0]) | skip)
                  replace H := Option.bind_eq_some_iff.mp H
                  obtain ⟨t643, A450, H⟩ := H
                  replace H : (gamplaw07_PairEven.j2 k2 t623 t630 t638 (!t643)) = some r := H
                  have A45 := Aside0.mk A450
                  clear A450
                  have H' := Aside0.mk H
                  clear H
                  obtain ⟨Ao46, co46, eo46⟩ := Kd.R_slice HO_8.out
                  subst eo46
                  go_wp2_with (first | (go_at_call 18; (with_reducible refine (gampref07_Matching.calls k2 (t623.length : Int) _ _ t630 t643 _ ?side1 ?side2 A45.out).mono ?_); (case side1 => repeat (first | exact (Kd.R_reads' HO_8.out).2.2 | (with_reducible refine Kd.C_alloc ?_ _) | (with_reducible refine Kd.C_drewN ?_ _) | (with_reducible refine Kd.C_drew ?_))); (case side2 => exact (Kd.R_reads' HO_8.out).2.1); rintro e w' ⟨rfl, ⟨nd, rfl⟩⟩; (try first | exact ⟨rfl, _, World.drewN_drewN _ _ _⟩ | exact ⟨rfl, _, Eq.trans (World.drewN_drewN _ _ _) (congrArg (World.drewN _) (Nat.add_assoc _ _ _))⟩)))
                  repeat (go_quiet (first | (go_at_call 18; (with_reducible refine (gampref07_Matching.calls k2 (t623.length : Int) _ _ t630 t643 _ ?side1 ?side2 A45.out).mono ?_); (case side1 => repeat (first | exact (Kd.R_reads' HO_8.out).2.2 | (with_reducible refine Kd.C_alloc ?_ _) | (with_reducible refine Kd.C_drewN ?_ _) | (with_reducible refine Kd.C_drew ?_))); (case side2 => exact (Kd.R_reads' HO_8.out).2.1); rintro e w' ⟨rfl, ⟨nd, rfl⟩⟩; (try first | exact ⟨rfl, _, World.drewN_drewN _ _ _⟩ | exact ⟨rfl, _, Eq.trans (World.drewN_drewN _ _ _) (congrArg (World.drewN _) (Nat.add_assoc _ _ _))⟩))); try go_wp2_with (first | (go_at_call 18; (with_reducible refine (gampref07_Matching.calls k2 (t623.length : Int) _ _ t630 t643 _ ?side1 ?side2 A45.out).mono ?_); (case side1 => repeat (first | exact (Kd.R_reads' HO_8.out).2.2 | (with_reducible refine Kd.C_alloc ?_ _) | (with_reducible refine Kd.C_drewN ?_ _) | (with_reducible refine Kd.C_drew ?_))); (case side2 => exact (Kd.R_reads' HO_8.out).2.1); rintro e w' ⟨rfl, ⟨nd, rfl⟩⟩; (try first | exact ⟨rfl, _, World.drewN_drewN _ _ _⟩ | exact ⟨rfl, _, Eq.trans (World.drewN_drewN _ _ _) (congrArg (World.drewN _) (Nat.add_assoc _ _ _))⟩))))
                  go_meet
                  case rel => exact ⟨_, (!t643), (by first | rfl | (simp; done) | (simp [*]; done)), H', ⟨by have := HJ5.out; have := HK2.out; first | omega | exact Nat.le_refl _⟩, ⟨by (with_reducible repeat (first | apply Kd.S_alloc | apply Kd.S_drewN | apply Kd.S_drew)); exact HO_5.out⟩, ⟨by (with_reducible repeat (first | apply Kd.R_alloc | apply Kd.R_drewN | apply Kd.R_drew)); exact HO_8.out⟩, ⟨by (with_reducible repeat (first | apply Kd.S_alloc | apply Kd.S_drewN | apply Kd.S_drew)); exact HO_10.out⟩, ⟨by repeat (first | (with_reducible first | exact HB.out | apply below_alloc | apply pw_below_drewN | apply below_drew1) | exact HB.out)⟩⟩
                · rw [if_neg c44] at H
                  have c44b0 : (t631 == 0) = false := beq_eq_false_iff_ne.mpr c44
                  have c44b1 : (t631 != 0) = true := bne_iff_ne.mpr c44
                  (first | rw [c44b0] | (simp only [i64_w, i32_w]; rw [c44b0]) | skip)
                  have H' := Aside0.mk H
                  clear H
                  go_wp2
                  repeat (go_quiet (fail); try go_wp2)
                  go_meet
                  case rel => exact ⟨_, (true), (by first | rfl | (simp; done) | (simp [*]; done)), H', ⟨by have := HJ5.out; have := HK2.out; first | omega | exact Nat.le_refl _⟩, ⟨by (with_reducible repeat (first | apply Kd.S_alloc | apply Kd.S_drewN | apply Kd.S_drew)); exact HO_5.out⟩, ⟨by (with_reducible repeat (first | apply Kd.R_alloc | apply Kd.R_drewN | apply Kd.R_drew)); exact HO_8.out⟩, ⟨by (with_reducible repeat (first | apply Kd.S_alloc | apply Kd.S_drewN | apply Kd.S_drew)); exact HO_10.out⟩, ⟨by repeat (first | (with_reducible first | exact HB.out | apply below_alloc | apply pw_below_drewN | apply below_drew1) | exact HB.out)⟩⟩
              case rest =>
                clear HC42
                try clear c1
                try clear c2
                try clear p2
                try clear c3
                try clear c4
                try clear c6
                try clear p6
                try clear q6
                try clear hx6
                try clear c11
                try clear c11b0
                try clear c11b1
                try clear c13
                try clear c15
                try clear c16
                try clear c16b0
                try clear c16b1
                try clear c21
                try clear c21b0
                try clear c21b1
                try clear c31
                try clear c35
                try clear c35b0
                try clear c36
                try clear c36b0
                try clear c37
                try clear c37b0
                try clear c37b1
                try clear c38
                try clear c38b0
                try clear c38b1
                try clear c44
                try clear c44b0
                try clear c44b1
                try clear hx641_0
                try clear hx642_0
                try clear p2
                try clear p641
                try clear p642
                try clear q641
                try clear q642
                obtain ⟨kq, x101_41, rfl, HA, HJ41, HO_5, HO_8, HO_10, HB⟩ := hcut
                cases kq with
                | zero => exact absurd HA.out (by simp [gamplaw07_PairEven.j2])
                | succ kj41 =>
                  have H := HA.out
                  clear HA
                  simp only [gamplaw07_PairEven.j2] at H
                  by_cases c47 : x101_41 = true
                  · subst c47
                    have H1 : (some false) = some r := by rw [if_pos rfl] at H; exact H
                    clear H
                    have H := H1
                    clear H1
                    obtain rfl := Option.some.inj H
                    go_wp2
                    repeat (go_quiet (fail); try go_wp2)
                    go_ret
                    exact ⟨by first | rfl | (simp [errW_none, errW_some] <;> rfl) | (simp [*, errW_none, errW_some] <;> rfl), by repeat (first | (with_reducible first | exact HB.out | apply below_alloc | apply pw_below_drewN | apply below_drew1) | exact HB.out)⟩
                  · replace c47 := Bool.eq_false_iff.mpr c47
                    subst c47
                    have H1 : (gamplaw07_PairEven.l1 kj41 t623 t630 t638 0) = some r := by rw [if_neg (show ¬ (false = true) by decide)] at H; exact H
                    clear H
                    have H := H1
                    clear H1
                    have H' := Aside0.mk H
                    clear H
                    go_wp2
                    repeat (go_quiet (fail); try go_wp2)
                    go_loopg [12] kj41 (fun kq v12 w' => ∃ (x8_4 : List Int) (x12_4 : Int), v12 = .int .i64 x12_4 ∧ Aside0 (gamplaw07_PairEven.l1 kq t623 x8_4 t638 x12_4 = some r) ∧ Aside0 (kq ≤ kj41) ∧ Aside0 (Kd.S (Kd.slice 3 (Kd.int .i64)) 24 w' w.heap.size (fun k_ => some k_ ≠ (v632 : Value).ownBlock ∧ some k_ ≠ ((.slice Ao43 t638.length co43) : Value).ownBlock) (.slice Ao8 t623.length co8) t623) ∧ Aside0 (Kd.R (Kd.int .i64) 3 w' w.heap.size (fun _ => True) v632 x8_4) ∧ Aside0 (Kd.S (Kd.slice 3 (Kd.int .i64)) 24 w' w.heap.size (fun k_ => some k_ ≠ ((.slice Ao8 t623.length co8) : Value).ownBlock ∧ some k_ ≠ (v632 : Value).ownBlock) (.slice Ao43 t638.length co43) t638) ∧ Aside0 (Below w.heap.size w w'))
                    case atStart => exact ⟨(t630), (0), (by first | rfl | (simp; done) | (simp [*]; done)), H', ⟨Nat.le_refl _⟩, ⟨by (with_reducible repeat (first | apply Kd.S_alloc | apply Kd.S_drewN | apply Kd.S_drew)); exact HO_5.out⟩, ⟨by (with_reducible repeat (first | apply Kd.R_alloc | apply Kd.R_drewN | apply Kd.R_drew)); exact HO_8.out⟩, ⟨by (with_reducible repeat (first | apply Kd.S_alloc | apply Kd.S_drewN | apply Kd.S_drew)); exact HO_10.out⟩, ⟨by repeat (first | (with_reducible first | exact HB.out | apply below_alloc | apply pw_below_drewN | apply below_drew1) | exact HB.out)⟩⟩
                    case round =>
                      clear H'
                      try clear c1
                      try clear c2
                      try clear p2
                      try clear c3
                      try clear c4
                      try clear c6
                      try clear p6
                      try clear q6
                      try clear hx6
                      try clear c11
                      try clear c11b0
                      try clear c11b1
                      try clear c13
                      try clear c15
                      try clear c16
                      try clear c16b0
                      try clear c16b1
                      try clear c21
                      try clear c21b0
                      try clear c21b1
                      try clear c31
                      try clear c35
                      try clear c35b0
                      try clear c36
                      try clear c36b0
                      try clear c37
                      try clear c37b0
                      try clear c37b1
                      try clear c38
                      try clear c38b0
                      try clear c38b1
                      try clear c44
                      try clear c44b0
                      try clear c44b1
                      try clear c47
                      try clear hx641_0
                      try clear hx642_0
                      try clear p2
                      try clear p6
                      try clear p641
                      try clear p642
                      try clear q6
                      try clear q641
                      try clear q642
                      obtain ⟨x8_4, x12_4, rfl, HA, HK4, HO_5, HO_8, HO_10, HB⟩ := hrel
                      cases gk with
                      | zero => exact absurd HA.out (by simp [gamplaw07_PairEven.l1])
                      | succ k4 =>
                        have H := HA.out
                        clear HA
                        simp only [gamplaw07_PairEven.l1] at H
                        by_cases c48 : x12_4 < 2
                        · rw [if_pos c48] at H
                          have c48b0 : decide (x12_4 < 2) = true := decide_eq_true c48
                          clear c48
                          replace H := Option.bind_eq_some_iff.mp H
                          obtain ⟨t647, A490, H⟩ := H
                          replace H : (gamplaw07_PairEven.l2 k4 t623 x8_4 t638 x12_4 t647 0) = some r := H
                          have A49 := Aside0.mk A490
                          clear A490
                          have H' := Aside0.mk H
                          clear H
                          go_wp2_with (first | (go_at_call 31; (with_reducible refine (gampref07_Alone.calls k4 (t623.length : Int) t647 _ A49.out).mono ?_); rintro e w50 ⟨v648, rfl, ho0, hb⟩; have n0_ := Aside0.mk (Kd.S_elder' (by (with_reducible repeat (first | apply Kd.S_alloc | apply Kd.S_drewN | apply Kd.S_drew)); exact HO_5.out) (Kd.R_base ho0) hb); have n1_ := Aside0.mk (Kd.R_elder' (by (with_reducible repeat (first | apply Kd.R_alloc | apply Kd.R_drewN | apply Kd.R_drew)); exact HO_8.out) (Kd.R_base ho0) hb); have n2_ := Aside0.mk (Kd.S_elder' (by (with_reducible repeat (first | apply Kd.S_alloc | apply Kd.S_drewN | apply Kd.S_drew)); exact HO_10.out) (Kd.R_base ho0) hb); have n3_ := Aside0.mk (Kd.R_lower (Kd.R_new' ho0 (Kd.R_lt (by (with_reducible repeat (first | apply Kd.R_alloc | apply Kd.R_drewN | apply Kd.R_drew)); exact HO_8.out))) (below_size (by repeat (first | (with_reducible first | exact HB.out | apply below_alloc | apply pw_below_drewN | apply below_drew1) | exact HB.out)))); have n4_ := Aside0.mk (below_step (by repeat (first | (with_reducible first | exact HB.out | apply below_alloc | apply pw_below_drewN | apply below_drew1) | exact HB.out)) hb); clear HO_5; clear HO_8; clear HO_10; clear HB; have HO_5 := n0_; have HO_8 := n1_; have HO_10 := n2_; have HO649 := n3_; have HB := n4_; clear n0_ n1_ n2_ n3_ n4_; (try clear hb); (try clear hb2); (try clear hk); (try clear hi); (try clear ho0)))
                          repeat (go_quiet (first | (go_at_call 31; (with_reducible refine (gampref07_Alone.calls k4 (t623.length : Int) t647 _ A49.out).mono ?_); rintro e w50 ⟨v648, rfl, ho0, hb⟩; have n0_ := Aside0.mk (Kd.S_elder' (by (with_reducible repeat (first | apply Kd.S_alloc | apply Kd.S_drewN | apply Kd.S_drew)); exact HO_5.out) (Kd.R_base ho0) hb); have n1_ := Aside0.mk (Kd.R_elder' (by (with_reducible repeat (first | apply Kd.R_alloc | apply Kd.R_drewN | apply Kd.R_drew)); exact HO_8.out) (Kd.R_base ho0) hb); have n2_ := Aside0.mk (Kd.S_elder' (by (with_reducible repeat (first | apply Kd.S_alloc | apply Kd.S_drewN | apply Kd.S_drew)); exact HO_10.out) (Kd.R_base ho0) hb); have n3_ := Aside0.mk (Kd.R_lower (Kd.R_new' ho0 (Kd.R_lt (by (with_reducible repeat (first | apply Kd.R_alloc | apply Kd.R_drewN | apply Kd.R_drew)); exact HO_8.out))) (below_size (by repeat (first | (with_reducible first | exact HB.out | apply below_alloc | apply pw_below_drewN | apply below_drew1) | exact HB.out)))); have n4_ := Aside0.mk (below_step (by repeat (first | (with_reducible first | exact HB.out | apply below_alloc | apply pw_below_drewN | apply below_drew1) | exact HB.out)) hb); clear HO_5; clear HO_8; clear HO_10; clear HB; have HO_5 := n0_; have HO_8 := n1_; have HO_10 := n2_; have HO649 := n3_; have HB := n4_; clear n0_ n1_ n2_ n3_ n4_; (try clear hb); (try clear hb2); (try clear hk); (try clear hi); (try clear ho0))); try go_wp2_with (first | (go_at_call 31; (with_reducible refine (gampref07_Alone.calls k4 (t623.length : Int) t647 _ A49.out).mono ?_); rintro e w50 ⟨v648, rfl, ho0, hb⟩; have n0_ := Aside0.mk (Kd.S_elder' (by (with_reducible repeat (first | apply Kd.S_alloc | apply Kd.S_drewN | apply Kd.S_drew)); exact HO_5.out) (Kd.R_base ho0) hb); have n1_ := Aside0.mk (Kd.R_elder' (by (with_reducible repeat (first | apply Kd.R_alloc | apply Kd.R_drewN | apply Kd.R_drew)); exact HO_8.out) (Kd.R_base ho0) hb); have n2_ := Aside0.mk (Kd.S_elder' (by (with_reducible repeat (first | apply Kd.S_alloc | apply Kd.S_drewN | apply Kd.S_drew)); exact HO_10.out) (Kd.R_base ho0) hb); have n3_ := Aside0.mk (Kd.R_lower (Kd.R_new' ho0 (Kd.R_lt (by (with_reducible repeat (first | apply Kd.R_alloc | apply Kd.R_drewN | apply Kd.R_drew)); exact HO_8.out))) (below_size (by repeat (first | (with_reducible first | exact HB.out | apply below_alloc | apply pw_below_drewN | apply below_drew1) | exact HB.out)))); have n4_ := Aside0.mk (below_step (by repeat (first | (with_reducible first | exact HB.out | apply below_alloc | apply pw_below_drewN | apply below_drew1) | exact HB.out)) hb); clear HO_5; clear HO_8; clear HO_10; clear HB; have HO_5 := n0_; have HO_8 := n1_; have HO_10 := n2_; have HO649 := n3_; have HB := n4_; clear n0_ n1_ n2_ n3_ n4_; (try clear hb); (try clear hb2); (try clear hk); (try clear hi); (try clear ho0))))
                          go_loopg [14] k4 (fun kq v14 w' => ∃ (x13_5 : List Int) (x14_5 : Int), v14 = .int .i64 x14_5 ∧ Aside0 (gamplaw07_PairEven.l2 kq t623 x8_4 t638 x12_4 x13_5 x14_5 = some r) ∧ Aside0 (kq ≤ k4) ∧ Aside0 (Kd.S (Kd.slice 3 (Kd.int .i64)) 24 w' w.heap.size (fun k_ => some k_ ≠ (v632 : Value).ownBlock ∧ some k_ ≠ ((.slice Ao43 t638.length co43) : Value).ownBlock ∧ some k_ ≠ (v648 : Value).ownBlock) (.slice Ao8 t623.length co8) t623) ∧ Aside0 (Kd.R (Kd.int .i64) 3 w' w.heap.size (fun k_ => some k_ ≠ (v648 : Value).ownBlock) v632 x8_4) ∧ Aside0 (Kd.S (Kd.slice 3 (Kd.int .i64)) 24 w' w.heap.size (fun k_ => some k_ ≠ ((.slice Ao8 t623.length co8) : Value).ownBlock ∧ some k_ ≠ (v632 : Value).ownBlock ∧ some k_ ≠ (v648 : Value).ownBlock) (.slice Ao43 t638.length co43) t638) ∧ Aside0 (Kd.R (Kd.int .i64) 3 w' w.heap.size (fun k_ => some k_ ≠ (v632 : Value).ownBlock) v648 x13_5) ∧ Aside0 (Below w.heap.size w w'))
                          case atStart => exact ⟨(t647), (0), (by first | rfl | (simp; done) | (simp [*]; done)), H', ⟨Nat.le_refl _⟩, ⟨by (with_reducible repeat (first | apply Kd.S_alloc | apply Kd.S_drewN | apply Kd.S_drew)); exact Kd.S_mono HO_5.out (fun _ hk => ⟨hk.1.1, ⟨hk.1.2, hk.2⟩⟩)⟩, ⟨by (with_reducible repeat (first | apply Kd.R_alloc | apply Kd.R_drewN | apply Kd.R_drew)); exact Kd.R_mono HO_8.out (fun _ hk => hk.2)⟩, ⟨by (with_reducible repeat (first | apply Kd.S_alloc | apply Kd.S_drewN | apply Kd.S_drew)); exact Kd.S_mono HO_10.out (fun _ hk => ⟨hk.1.1, ⟨hk.1.2, hk.2⟩⟩)⟩, ⟨by (with_reducible repeat (first | apply Kd.R_alloc | apply Kd.R_drewN | apply Kd.R_drew)); exact Kd.R_mono HO649.out (fun _ hk => hk.2)⟩, ⟨by repeat (first | (with_reducible first | exact HB.out | apply below_alloc | apply pw_below_drewN | apply below_drew1) | exact HB.out)⟩⟩
                          case round =>
                            clear H'
                            try clear c1
                            try clear c2
                            try clear p2
                            try clear c3
                            try clear c4
                            try clear c6
                            try clear p6
                            try clear q6
                            try clear hx6
                            try clear c11
                            try clear c11b0
                            try clear c11b1
                            try clear c13
                            try clear c15
                            try clear c16
                            try clear c16b0
                            try clear c16b1
                            try clear c21
                            try clear c21b0
                            try clear c21b1
                            try clear c31
                            try clear c35
                            try clear c35b0
                            try clear c36
                            try clear c36b0
                            try clear c37
                            try clear c37b0
                            try clear c37b1
                            try clear c38
                            try clear c38b0
                            try clear c38b1
                            try clear c44
                            try clear c44b0
                            try clear c44b1
                            try clear c47
                            try clear c48
                            try clear c48b0
                            try clear hx641_0
                            try clear hx642_0
                            try clear p2
                            try clear p6
                            try clear p641
                            try clear p642
                            try clear q6
                            try clear q641
                            try clear q642
                            obtain ⟨x13_5, x14_5, rfl, HA, HK5, HO_5, HO_8, HO_10, HO_13, HB⟩ := hrel
                            cases gk with
                            | zero => exact absurd HA.out (by simp [gamplaw07_PairEven.l2])
                            | succ k5 =>
                              have H := HA.out
                              clear HA
                              simp only [gamplaw07_PairEven.l2] at H
                              by_cases c51 : x14_5 < (t638.length : Int)
                              · rw [if_pos c51] at H
                                have c51b0 : decide (x14_5 < (t638.length : Int)) = true := decide_eq_true c51
                                clear c51
                                by_cases c52 : 0 ≤ x14_5
                                · rw [if_pos c52] at H
                                  have c52b0 : decide (0 ≤ x14_5) = true := decide_eq_true c52
                                  clear c52
                                  have H' := Aside0.mk H
                                  clear H
                                  have p650 : 0 ≤ (x14_5 : Int) := of_decide_eq_true (by first | (with_reducible assumption) | assumption)
                                  have q650 : x14_5 < (t638.length : Int) := of_decide_eq_true (by first | (with_reducible assumption) | assumption)
                                  obtain ⟨ad650, A650_0, c650_0, e650, hx650_0, hl650_0, hi650_0⟩ := at_L1 (Kd.S_reads' HO_10.out).2.2 x14_5 p650 q650
                                  cases e650
                                  obtain ⟨ce650, hce650, hMe650, hcc650⟩ := Kd.S_get HO_10.out [] x14_5 p650 (by first | exact q650 | exact of_decide_eq_true (by first | (with_reducible assumption) | assumption) | (have e_ := (Kd.S_reads' HO_10.out).1; omega))
                                  obtain ⟨ve650_0, rfl, ge650_0⟩ := hMe650
                                  have hv650_0 := hcc650 0 _ rfl
                                  rw [Nat.add_zero, show ((Kd.slice 3 (Kd.int .i64))).sz = 1 from rfl, Nat.mul_one] at hv650_0
                                  replace hv650_0 := Option.some.inj (hv650_0.symm.trans hx650_0)
                                  rw [hv650_0] at ge650_0
                                  have HL650_0 := Aside0.mk (show Kd.R (Kd.int .i64) 3 _ _ _ _ (rd_L1 t638 x14_5) from ge650_0)
                                  clear hv650_0 ge650_0
                                  clear hcc650 hce650
                                  have HR650_0 := Aside0.mk hi650_0
                                  have HC650_0 := Aside0.mk hl650_0
                                  clear hi650_0 hl650_0
                                  replace p650 := eq_true p650
                                  replace q650 := eq_true q650
                                  go_wp2
                                  repeat (go_quiet (fail); try go_wp2)
                                  go_loopg [16] k5 (fun kq v16 w' => ∃ (x13_6 : List Int) (x16_6 : Int), v16 = .int .i64 x16_6 ∧ Aside0 (gamplaw07_PairEven.l3 kq t623 x8_4 t638 x12_4 x13_6 x14_5 (rd_L1 t638 x14_5) x16_6 = some r) ∧ Aside0 (kq ≤ k5) ∧ Aside0 (Kd.S (Kd.slice 3 (Kd.int .i64)) 24 w' w.heap.size (fun k_ => some k_ ≠ (v632 : Value).ownBlock ∧ some k_ ≠ ((.slice (some ad650) t638.length co43) : Value).ownBlock ∧ some k_ ≠ (v648 : Value).ownBlock) (.slice Ao8 t623.length co8) t623) ∧ Aside0 (Kd.R (Kd.int .i64) 3 w' w.heap.size (fun k_ => some k_ ≠ (v648 : Value).ownBlock) v632 x8_4) ∧ Aside0 (Kd.R (Kd.int .i64) 3 w' w.heap.size (fun k_ => some k_ ≠ (v648 : Value).ownBlock) (.slice A650_0 (rd_L1 t638 x14_5).length c650_0) (rd_L1 t638 x14_5)) ∧ Aside0 (Kd.S (Kd.slice 3 (Kd.int .i64)) 24 w' w.heap.size (fun k_ => some k_ ≠ ((.slice Ao8 t623.length co8) : Value).ownBlock ∧ some k_ ≠ (v632 : Value).ownBlock ∧ some k_ ≠ (v648 : Value).ownBlock) (.slice (some ad650) t638.length co43) t638) ∧ Aside0 (Kd.R (Kd.int .i64) 3 w' w.heap.size (fun k_ => some k_ ≠ (v632 : Value).ownBlock) v648 x13_6) ∧ Aside0 (Below w.heap.size w w'))
                                  case atStart => exact ⟨(x13_5), (0), (by first | rfl | (simp; done) | (simp [*]; done)), H', ⟨Nat.le_refl _⟩, ⟨by (with_reducible repeat (first | apply Kd.S_alloc | apply Kd.S_drewN | apply Kd.S_drew)); exact HO_5.out⟩, ⟨by (with_reducible repeat (first | apply Kd.R_alloc | apply Kd.R_drewN | apply Kd.R_drew)); exact HO_8.out⟩, ⟨by (with_reducible repeat (first | apply Kd.R_alloc | apply Kd.R_drewN | apply Kd.R_drew)); exact Kd.R_mono HL650_0.out (fun _ hk => by first | exact hk.2.2 | exact hk.1.2.2 | exact hk.2.2.1 | exact hk.1.2.2.1 | exact hk.2.1 | (simp_all; done))⟩, ⟨by (with_reducible repeat (first | apply Kd.S_alloc | apply Kd.S_drewN | apply Kd.S_drew)); exact HO_10.out⟩, ⟨by (with_reducible repeat (first | apply Kd.R_alloc | apply Kd.R_drewN | apply Kd.R_drew)); exact HO_13.out⟩, ⟨by repeat (first | (with_reducible first | exact HB.out | apply below_alloc | apply pw_below_drewN | apply below_drew1) | exact HB.out)⟩⟩
                                  case round =>
                                    clear H'
                                    try clear c1
                                    try clear c2
                                    try clear p2
                                    try clear c3
                                    try clear c4
                                    try clear c5
                                    try clear c6
                                    try clear p6
                                    try clear q6
                                    try clear hx6
                                    try clear c11
                                    try clear c11b0
                                    try clear c11b1
                                    try clear c13
                                    try clear c15
                                    try clear c16
                                    try clear c16b0
                                    try clear c16b1
                                    try clear c21
                                    try clear c21b0
                                    try clear c21b1
                                    try clear c31
                                    try clear c35
                                    try clear c35b0
                                    try clear c36
                                    try clear c36b0
                                    try clear c37
                                    try clear c37b0
                                    try clear c37b1
                                    try clear c38
                                    try clear c38b0
                                    try clear c38b1
                                    try clear c44
                                    try clear c44b0
                                    try clear c44b1
                                    try clear c47
                                    try clear c48
                                    try clear c48b0
                                    try clear c51
                                    try clear c51b0
                                    try clear c52
                                    try clear c52b0
                                    try clear hx641_0
                                    try clear hx642_0
                                    try clear hx650_0
                                    try clear p2
                                    try clear p6
                                    try clear p641
                                    try clear p642
                                    try clear p650
                                    try clear q6
                                    try clear q641
                                    try clear q642
                                    try clear q650
                                    obtain ⟨x13_6, x16_6, rfl, HA, HK6, HO_5, HO_8, HO_L, HO_10, HO_13, HB⟩ := hrel
                                    cases gk with
                                    | zero => exact absurd HA.out (by simp [gamplaw07_PairEven.l3])
                                    | succ k6 =>
                                      have H := HA.out
                                      clear HA
                                      simp only [gamplaw07_PairEven.l3] at H
                                      by_cases c53 : (wrap64 (x16_6 + 1)) < ((rd_L1 t638 x14_5).length : Int)
                                      · rw [if_pos c53] at H
                                        have c53b0 : decide ((wrap64 (x16_6 + 1)) < ((rd_L1 t638 x14_5).length : Int)) = true := decide_eq_true c53
                                        clear c53
                                        by_cases c54 : ((rd_L1 t638 x14_5).length : Int) = 0
                                        · rw [if_pos c54] at H
                                          exact absurd H (by simp)
                                        · rw [if_neg c54] at H
                                          have c54b0 : (((rd_L1 t638 x14_5).length : Int) == 0) = false := beq_eq_false_iff_ne.mpr c54
                                          have c54b1 : (((rd_L1 t638 x14_5).length : Int) != 0) = true := bne_iff_ne.mpr c54
                                          have c54b2 : ¬ ((rd_L1 t638 x14_5) = []) := fun h_ => c54 (by rw [h_]; rfl)
                                          obtain ⟨ji55, hji55⟩ : ∃ j_ : Int, (Int.tmod (wrap64 (x16_6 + x12_4)) ((rd_L1 t638 x14_5).length : Int)) = j_ := ⟨_, rfl⟩
                                          replace H : (if 0 ≤ (ji55) then (if (ji55) < ((rd_L1 t638 x14_5).length : Int) then (if 0 ≤ (Int.tmod (wrap64 ((wrap64 (x16_6 + x12_4)) + 1)) ((rd_L1 t638 x14_5).length : Int)) then (if (Int.tmod (wrap64 ((wrap64 (x16_6 + x12_4)) + 1)) ((rd_L1 t638 x14_5).length : Int)) < ((rd_L1 t638 x14_5).length : Int) then (if 0 ≤ (rd (rd_L1 t638 x14_5) (ji55)) then (if (rd (rd_L1 t638 x14_5) (ji55)) < (x13_6.length : Int) then (if 0 ≤ (rd (rd_L1 t638 x14_5) (Int.tmod (wrap64 ((wrap64 (x16_6 + x12_4)) + 1)) ((rd_L1 t638 x14_5).length : Int))) then (if (rd (rd_L1 t638 x14_5) (Int.tmod (wrap64 ((wrap64 (x16_6 + x12_4)) + 1)) ((rd_L1 t638 x14_5).length : Int))) < (x13_6.length : Int) then (gamplaw07_PairEven.l3 k6 t623 x8_4 t638 x12_4 ((x13_6.set ((rd (rd_L1 t638 x14_5) (ji55)) : Int).toNat (rd (rd_L1 t638 x14_5) (Int.tmod (wrap64 ((wrap64 (x16_6 + x12_4)) + 1)) ((rd_L1 t638 x14_5).length : Int)))).set ((rd (rd_L1 t638 x14_5) (Int.tmod (wrap64 ((wrap64 (x16_6 + x12_4)) + 1)) ((rd_L1 t638 x14_5).length : Int))) : Int).toNat (rd (rd_L1 t638 x14_5) (ji55))) x14_5 (rd_L1 t638 x14_5) (wrap64 (x16_6 + 2))) else (none)) else (none)) else (none)) else (none)) else (none)) else (none)) else (none)) else (none)) = some r := by first | (rw [hji55] at H; exact H) | (simp only [hji55] at H ⊢; exact H)
                                          by_cases c56 : 0 ≤ (ji55)
                                          · rw [if_pos c56] at H
                                            have c56b0 : decide (0 ≤ (ji55)) = true := decide_eq_true c56
                                            clear c56
                                            by_cases c57 : (ji55) < ((rd_L1 t638 x14_5).length : Int)
                                            · rw [if_pos c57] at H
                                              have c57b0 : decide ((ji55) < ((rd_L1 t638 x14_5).length : Int)) = true := decide_eq_true c57
                                              clear c57
                                              obtain ⟨ji58, hji58⟩ : ∃ j_ : Int, (Int.tmod (wrap64 ((wrap64 (x16_6 + x12_4)) + 1)) ((rd_L1 t638 x14_5).length : Int)) = j_ := ⟨_, rfl⟩
                                              replace H : (if 0 ≤ (ji58) then (if (ji58) < ((rd_L1 t638 x14_5).length : Int) then (if 0 ≤ (rd (rd_L1 t638 x14_5) (ji55)) then (if (rd (rd_L1 t638 x14_5) (ji55)) < (x13_6.length : Int) then (if 0 ≤ (rd (rd_L1 t638 x14_5) (ji58)) then (if (rd (rd_L1 t638 x14_5) (ji58)) < (x13_6.length : Int) then (gamplaw07_PairEven.l3 k6 t623 x8_4 t638 x12_4 ((x13_6.set ((rd (rd_L1 t638 x14_5) (ji55)) : Int).toNat (rd (rd_L1 t638 x14_5) (ji58))).set ((rd (rd_L1 t638 x14_5) (ji58)) : Int).toNat (rd (rd_L1 t638 x14_5) (ji55))) x14_5 (rd_L1 t638 x14_5) (wrap64 (x16_6 + 2))) else (none)) else (none)) else (none)) else (none)) else (none)) else (none)) = some r := by first | (rw [hji58] at H; exact H) | (simp only [hji58] at H ⊢; exact H)
                                              by_cases c59 : 0 ≤ (ji58)
                                              · rw [if_pos c59] at H
                                                have c59b0 : decide (0 ≤ (ji58)) = true := decide_eq_true c59
                                                clear c59
                                                by_cases c60 : (ji58) < ((rd_L1 t638 x14_5).length : Int)
                                                · rw [if_pos c60] at H
                                                  have c60b0 : decide ((ji58) < ((rd_L1 t638 x14_5).length : Int)) = true := decide_eq_true c60
                                                  clear c60
                                                  by_cases c61 : 0 ≤ (rd (rd_L1 t638 x14_5) (ji55))
                                                  · rw [if_pos c61] at H
                                                    have c61b0 : decide (0 ≤ (rd (rd_L1 t638 x14_5) (ji55))) = true := decide_eq_true c61
                                                    clear c61
                                                    by_cases c62 : (rd (rd_L1 t638 x14_5) (ji55)) < (x13_6.length : Int)
                                                    · rw [if_pos c62] at H
                                                      have c62b0 : decide ((rd (rd_L1 t638 x14_5) (ji55)) < (x13_6.length : Int)) = true := decide_eq_true c62
                                                      clear c62
                                                      obtain ⟨y653, hy653⟩ : ∃ y_ : List Int, y_ = (x13_6.set ((rd (rd_L1 t638 x14_5) (ji55)) : Int).toNat (rd (rd_L1 t638 x14_5) (ji58))) := ⟨_, rfl⟩
                                                      replace H : (if 0 ≤ (rd (rd_L1 t638 x14_5) (ji58)) then (if (rd (rd_L1 t638 x14_5) (ji58)) < (x13_6.length : Int) then (gamplaw07_PairEven.l3 k6 t623 x8_4 t638 x12_4 (y653.set ((rd (rd_L1 t638 x14_5) (ji58)) : Int).toNat (rd (rd_L1 t638 x14_5) (ji55))) x14_5 (rd_L1 t638 x14_5) (wrap64 (x16_6 + 2))) else (none)) else (none)) = some r := by first | (rw [hy653]; with_reducible exact H) | (have H2_ := (Option.bind_some _ _).symm.trans H; rw [hy653]; with_reducible exact H2_) | (have H2_ := (Option.bind_some _ _).symm.trans H; with_reducible exact H2_) | with_reducible exact H | (rw [hy653]; exact H) | exact H
                                                      have Ny653 := Aside0.mk hy653
                                                      clear hy653
                                                      by_cases c64 : 0 ≤ (rd (rd_L1 t638 x14_5) (ji58))
                                                      · rw [if_pos c64] at H
                                                        have c64b0 : decide (0 ≤ (rd (rd_L1 t638 x14_5) (ji58))) = true := decide_eq_true c64
                                                        clear c64
                                                        by_cases c65 : (rd (rd_L1 t638 x14_5) (ji58)) < (x13_6.length : Int)
                                                        · rw [if_pos c65] at H
                                                          have c65b0 : decide ((rd (rd_L1 t638 x14_5) (ji58)) < (x13_6.length : Int)) = true := decide_eq_true c65
                                                          clear c65
                                                          obtain ⟨y654, hy654⟩ : ∃ y_ : List Int, y_ = (y653.set ((rd (rd_L1 t638 x14_5) (ji58)) : Int).toNat (rd (rd_L1 t638 x14_5) (ji55))) := ⟨_, rfl⟩
                                                          replace H : (gamplaw07_PairEven.l3 k6 t623 x8_4 t638 x12_4 y654 x14_5 (rd_L1 t638 x14_5) (wrap64 (x16_6 + 2))) = some r := by first | (rw [hy654]; with_reducible exact H) | (have H2_ := (Option.bind_some _ _).symm.trans H; rw [hy654]; with_reducible exact H2_) | (have H2_ := (Option.bind_some _ _).symm.trans H; with_reducible exact H2_) | with_reducible exact H | (rw [hy654]; exact H) | exact H
                                                          have Ny654 := Aside0.mk hy654
                                                          clear hy654
                                                          have H' := Aside0.mk H
                                                          clear H
                                                          have p651 : 0 ≤ ((ji55) : Int) := of_decide_eq_true (by first | (with_reducible assumption) | assumption)
                                                          have q651 : (ji55) < ((rd_L1 t638 x14_5).length : Int) := of_decide_eq_true (by first | (with_reducible assumption) | assumption)
                                                          obtain ⟨goL, coL, eoL, gbL, glL, clL, HGL⟩ := Kd.R_form HO_L.out (by omega)
                                                          (first | cases eoL | (injection eoL with ea_ en_ ec_; (first | subst ea_ | (injection ea_ with ea_; subst ea_)); subst ec_; clear en_))
                                                          clear gbL glL HGL
                                                          obtain ⟨hx651_0, hf651_0⟩ := Kd.R_celln 0 HO_L.out (ji55) p651 q651
                                                          clear hf651_0
                                                          replace hx651_0 : World.cell? _ ⟨goL, (ji55).toNat, none⟩ = some (.int .i64 (rd (rd_L1 t638 x14_5) (ji55))) := hx651_0
                                                          replace p651 := eq_true p651
                                                          replace q651 := eq_true q651
                                                          have p652 : 0 ≤ ((ji58) : Int) := of_decide_eq_true (by first | (with_reducible assumption) | assumption)
                                                          have q652 : (ji58) < ((rd_L1 t638 x14_5).length : Int) := of_decide_eq_true (by first | (with_reducible assumption) | assumption)
                                                          obtain ⟨hx652_0, hf652_0⟩ := Kd.R_celln 0 HO_L.out (ji58) p652 q652
                                                          clear hf652_0
                                                          replace hx652_0 : World.cell? _ ⟨goL, (ji58).toNat, none⟩ = some (.int .i64 (rd (rd_L1 t638 x14_5) (ji58))) := hx652_0
                                                          replace p652 := eq_true p652
                                                          replace q652 := eq_true q652
                                                          have p63 : 0 ≤ ((rd (rd_L1 t638 x14_5) (ji55)) : Int) := of_decide_eq_true (by first | (with_reducible assumption) | assumption)
                                                          have q63 : ((rd (rd_L1 t638 x14_5) (ji55)) : Int) < ((x13_6.length : Int) : Int) := of_decide_eq_true (by first | (with_reducible assumption) | assumption)
                                                          obtain ⟨go63, co63, eo63, gb63, gl63, cl63, HG63⟩ := Kd.R_form HO_13.out (by omega)
                                                          (first | cases eo63 | (injection eo63 with ea_ en_ ec_; (first | subst ea_ | (injection ea_ with ea_; subst ea_)); subst ec_; clear en_))
                                                          have GB63 := Aside0.mk gb63
                                                          have GG63 := Aside0.mk HG63
                                                          clear gb63 gl63 HG63
                                                          obtain ⟨hx63_0, hf63_0⟩ := Kd.R_celln 0 HO_13.out ((rd (rd_L1 t638 x14_5) (ji55)) : Int) p63 q63
                                                          replace p63 := eq_true p63
                                                          replace q63 := eq_true q63
                                                          have HP67 := Kd.R_putg HO_13.out ((rd (rd_L1 t638 x14_5) (ji55)) : Int) (rd (rd_L1 t638 x14_5) (ji58))
                                                          go_wp2_with (first | ((with_reducible refine gate_store (t := 3) (p := 151) rfl ?_); (try (rw [drewN_self wr]; generalize hq_ : World.drewN wr _ = wr; have n0_ := Aside0.mk (Kd.S_at hq_ HO_5.out); have n1_ := Aside0.mk (Kd.R_at hq_ HO_8.out); have nL_ := Aside0.mk (Kd.R_at hq_ HO_L.out); have n2_ := Aside0.mk (Kd.S_at hq_ HO_10.out); have n3_ := Aside0.mk (Kd.R_at hq_ HO_13.out); have n4_ := Aside0.mk (below_at hq_ HB.out); clear hq_ HO_5 HO_8 HO_L HO_10 HO_13 HB; have HO_5 := n0_; have HO_8 := n1_; have HO_L := nL_; have HO_10 := n2_; have HO_13 := n3_; have HB := n4_; clear nL_ n0_ n1_ n2_ n3_ n4_; (try (obtain ⟨hx63_, hf63_⟩ := Kd.R_celln 0 HO_13.out ((rd (rd_L1 t638 x14_5) (ji55)) : Int) (of_decide_eq_true (by first | (with_reducible assumption) | assumption)) (of_decide_eq_true (by first | (with_reducible assumption) | assumption)))); (try (have HP67 := Kd.R_putg HO_13.out ((rd (rd_L1 t638 x14_5) (ji55)) : Int) (rd (rd_L1 t638 x14_5) (ji58)))))); refine store_event (t := 3) (p := 151) (v := ?vo_w68) (w1 := (wr.setCell ⟨go63, ((rd (rd_L1 t638 x14_5) (ji55)) : Int).toNat, none⟩ (.int .i64 (rd (rd_L1 t638 x14_5) (ji58))))) ?hg ?ho ?hn ?hr ?_; (case ho => rfl); (case hg => rfl); (case hn => rfl); (case hr => first | (go_simp; done) | (go_simp; rfl)); intro w68 hw; have hg : wr.grownBy w68 (some go63) := (by rw [hw]; exact HP67.2); have hp_ : Kd.R (Kd.int .i64) 3 w68 w.heap.size (fun k_ => some k_ ≠ (v632 : Value).ownBlock) (.slice (some ⟨go63, 0, none⟩) x13_6.length co63) y653 := (by rw [hw, Ny653.out]; exact HP67.1); clear HP67; have n0_ := Aside0.mk (Kd.S_after (v := (.slice (some ⟨go63, 0, none⟩) x13_6.length co63)) (v1 := (.slice (some ⟨go63, 0, none⟩) x13_6.length co63)) (ok := (fun k_ => some k_ ≠ (v632 : Value).ownBlock ∧ some k_ ≠ (.slice (some ad650) t638.length co43 : Value).ownBlock)) (by (with_reducible repeat (first | apply Kd.S_alloc | apply Kd.S_drewN | apply Kd.S_drew)); exact Kd.S_mono HO_5.out (fun _ hk => ⟨⟨hk.1, hk.2.1⟩, hk.2.2⟩)) hg (.inl rfl)); have n1_ := Aside0.mk (Kd.R_after (v := (.slice (some ⟨go63, 0, none⟩) x13_6.length co63)) (v1 := (.slice (some ⟨go63, 0, none⟩) x13_6.length co63)) (ok := (fun _ => True)) (by (with_reducible repeat (first | apply Kd.R_alloc | apply Kd.R_drewN | apply Kd.R_drew)); exact Kd.R_mono HO_8.out (fun _ hk => ⟨trivial, hk⟩)) hg (.inl rfl)); have nL_ := Aside0.mk (Kd.R_after (v := (.slice (some ⟨go63, 0, none⟩) x13_6.length co63)) (v1 := (.slice (some ⟨go63, 0, none⟩) x13_6.length co63)) (ok := (fun _ => True)) (by (with_reducible repeat (first | apply Kd.R_alloc | apply Kd.R_drewN | apply Kd.R_drew)); exact Kd.R_mono HO_L.out (fun _ hk => ⟨trivial, hk⟩)) hg (.inl rfl)); have n2_ := Aside0.mk (Kd.S_after (v := (.slice (some ⟨go63, 0, none⟩) x13_6.length co63)) (v1 := (.slice (some ⟨go63, 0, none⟩) x13_6.length co63)) (ok := (fun k_ => some k_ ≠ (.slice Ao8 t623.length co8 : Value).ownBlock ∧ some k_ ≠ (v632 : Value).ownBlock)) (by (with_reducible repeat (first | apply Kd.S_alloc | apply Kd.S_drewN | apply Kd.S_drew)); exact Kd.S_mono HO_10.out (fun _ hk => ⟨⟨hk.1, hk.2.1⟩, hk.2.2⟩)) hg (.inl rfl)); have n3_ := Aside0.mk (hp_); have n4_ := Aside0.mk ((by rw [hw]; exact below_set (HB.out) GB63.out : Below w.heap.size w w68)); clear HO_5; clear HO_8; clear HO_L; clear HO_10; clear HO_13; clear HB; have HO_5 := n0_; have HO_8 := n1_; have HO_L := nL_; have HO_10 := n2_; have HO_13 := n3_; have HB := n4_; clear nL_ n0_ n1_ n2_ n3_ n4_; clear hg hw hp_; have p66 : 0 ≤ ((rd (rd_L1 t638 x14_5) (ji58)) : Int) := of_decide_eq_true (by first | (with_reducible assumption) | assumption); have q66 : ((rd (rd_L1 t638 x14_5) (ji58)) : Int) < ((x13_6.length : Int) : Int) := of_decide_eq_true (by first | (with_reducible assumption) | assumption); obtain ⟨hx66_0, hf66_0⟩ := Kd.R_celln 0 HO_13.out ((rd (rd_L1 t638 x14_5) (ji58)) : Int) p66 q66; replace p66 := eq_true p66; replace q66 := eq_true q66; obtain ⟨hy69_, hz69_⟩ := Kd.R_celln 0 HO_13.out ((rd (rd_L1 t638 x14_5) (ji58)) : Int) (of_decide_eq_true (by first | (with_reducible assumption) | assumption)) (of_decide_eq_true (by first | (with_reducible assumption) | assumption)); have HP69 := Kd.R_putg HO_13.out ((rd (rd_L1 t638 x14_5) (ji58)) : Int) (rd (rd_L1 t638 x14_5) (ji55))) | ((with_reducible refine gate_store (t := 3) (p := 152) rfl ?_); (try (rw [drewN_self w68]; generalize hq_ : World.drewN w68 _ = w68; have n0_ := Aside0.mk (Kd.S_at hq_ HO_5.out); have n1_ := Aside0.mk (Kd.R_at hq_ HO_8.out); have nL_ := Aside0.mk (Kd.R_at hq_ HO_L.out); have n2_ := Aside0.mk (Kd.S_at hq_ HO_10.out); have n3_ := Aside0.mk (Kd.R_at hq_ HO_13.out); have n4_ := Aside0.mk (below_at hq_ HB.out); clear hq_ HO_5 HO_8 HO_L HO_10 HO_13 HB; have HO_5 := n0_; have HO_8 := n1_; have HO_L := nL_; have HO_10 := n2_; have HO_13 := n3_; have HB := n4_; clear nL_ n0_ n1_ n2_ n3_ n4_; (try (obtain ⟨hy69_, hz69_⟩ := Kd.R_celln 0 HO_13.out ((rd (rd_L1 t638 x14_5) (ji58)) : Int) (of_decide_eq_true (by first | (with_reducible assumption) | assumption)) (of_decide_eq_true (by first | (with_reducible assumption) | assumption)))); (try (have HP69 := Kd.R_putg HO_13.out ((rd (rd_L1 t638 x14_5) (ji58)) : Int) (rd (rd_L1 t638 x14_5) (ji55)))))); refine store_event (t := 3) (p := 152) (v := ?vo_w70) (w1 := (w68.setCell ⟨go63, ((rd (rd_L1 t638 x14_5) (ji58)) : Int).toNat, none⟩ (.int .i64 (rd (rd_L1 t638 x14_5) (ji55))))) ?hg ?ho ?hn ?hr ?_; (case ho => rfl); (case hg => rfl); (case hn => rfl); (case hr => first | (go_simp; done) | (go_simp; rfl)); intro w70 hw; have hg : w68.grownBy w70 (some go63) := (by rw [hw]; exact HP69.2); have hp_ : Kd.R (Kd.int .i64) 3 w70 w.heap.size (fun k_ => some k_ ≠ (v632 : Value).ownBlock) (.slice (some ⟨go63, 0, none⟩) x13_6.length co63) y654 := (by rw [hw, Ny654.out]; exact HP69.1); clear HP69; have n0_ := Aside0.mk (Kd.S_after (v := (.slice (some ⟨go63, 0, none⟩) x13_6.length co63)) (v1 := (.slice (some ⟨go63, 0, none⟩) x13_6.length co63)) (ok := (fun k_ => some k_ ≠ (v632 : Value).ownBlock ∧ some k_ ≠ (.slice (some ad650) t638.length co43 : Value).ownBlock)) (by (with_reducible repeat (first | apply Kd.S_alloc | apply Kd.S_drewN | apply Kd.S_drew)); exact HO_5.out) hg (.inl rfl)); have n1_ := Aside0.mk (Kd.R_after (v := (.slice (some ⟨go63, 0, none⟩) x13_6.length co63)) (v1 := (.slice (some ⟨go63, 0, none⟩) x13_6.length co63)) (ok := (fun _ => True)) (by (with_reducible repeat (first | apply Kd.R_alloc | apply Kd.R_drewN | apply Kd.R_drew)); exact HO_8.out) hg (.inl rfl)); have nL_ := Aside0.mk (Kd.R_after (v := (.slice (some ⟨go63, 0, none⟩) x13_6.length co63)) (v1 := (.slice (some ⟨go63, 0, none⟩) x13_6.length co63)) (ok := (fun _ => True)) (by (with_reducible repeat (first | apply Kd.R_alloc | apply Kd.R_drewN | apply Kd.R_drew)); exact HO_L.out) hg (.inl rfl)); have n2_ := Aside0.mk (Kd.S_after (v := (.slice (some ⟨go63, 0, none⟩) x13_6.length co63)) (v1 := (.slice (some ⟨go63, 0, none⟩) x13_6.length co63)) (ok := (fun k_ => some k_ ≠ (.slice Ao8 t623.length co8 : Value).ownBlock ∧ some k_ ≠ (v632 : Value).ownBlock)) (by (with_reducible repeat (first | apply Kd.S_alloc | apply Kd.S_drewN | apply Kd.S_drew)); exact HO_10.out) hg (.inl rfl)); have n3_ := Aside0.mk (hp_); have n4_ := Aside0.mk ((by rw [hw]; exact below_set (HB.out) GB63.out : Below w.heap.size w w70)); clear HO_5; clear HO_8; clear HO_L; clear HO_10; clear HO_13; clear HB; have HO_5 := n0_; have HO_8 := n1_; have HO_L := nL_; have HO_10 := n2_; have HO_13 := n3_; have HB := n4_; clear nL_ n0_ n1_ n2_ n3_ n4_; clear hg hw hp_))
                                                          repeat (go_quiet (first | ((with_reducible refine gate_store (t := 3) (p := 151) rfl ?_); (try (rw [drewN_self wr]; generalize hq_ : World.drewN wr _ = wr; have n0_ := Aside0.mk (Kd.S_at hq_ HO_5.out); have n1_ := Aside0.mk (Kd.R_at hq_ HO_8.out); have nL_ := Aside0.mk (Kd.R_at hq_ HO_L.out); have n2_ := Aside0.mk (Kd.S_at hq_ HO_10.out); have n3_ := Aside0.mk (Kd.R_at hq_ HO_13.out); have n4_ := Aside0.mk (below_at hq_ HB.out); clear hq_ HO_5 HO_8 HO_L HO_10 HO_13 HB; have HO_5 := n0_; have HO_8 := n1_; have HO_L := nL_; have HO_10 := n2_; have HO_13 := n3_; have HB := n4_; clear nL_ n0_ n1_ n2_ n3_ n4_; (try (obtain ⟨hx63_, hf63_⟩ := Kd.R_celln 0 HO_13.out ((rd (rd_L1 t638 x14_5) (ji55)) : Int) (of_decide_eq_true (by first | (with_reducible assumption) | assumption)) (of_decide_eq_true (by first | (with_reducible assumption) | assumption)))); (try (have HP67 := Kd.R_putg HO_13.out ((rd (rd_L1 t638 x14_5) (ji55)) : Int) (rd (rd_L1 t638 x14_5) (ji58)))))); refine store_event (t := 3) (p := 151) (v := ?vo_w68) (w1 := (wr.setCell ⟨go63, ((rd (rd_L1 t638 x14_5) (ji55)) : Int).toNat, none⟩ (.int .i64 (rd (rd_L1 t638 x14_5) (ji58))))) ?hg ?ho ?hn ?hr ?_; (case ho => rfl); (case hg => rfl); (case hn => rfl); (case hr => first | (go_simp; done) | (go_simp; rfl)); intro w68 hw; have hg : wr.grownBy w68 (some go63) := (by rw [hw]; exact HP67.2); have hp_ : Kd.R (Kd.int .i64) 3 w68 w.heap.size (fun k_ => some k_ ≠ (v632 : Value).ownBlock) (.slice (some ⟨go63, 0, none⟩) x13_6.length co63) y653 := (by rw [hw, Ny653.out]; exact HP67.1); clear HP67; have n0_ := Aside0.mk (Kd.S_after (v := (.slice (some ⟨go63, 0, none⟩) x13_6.length co63)) (v1 := (.slice (some ⟨go63, 0, none⟩) x13_6.length co63)) (ok := (fun k_ => some k_ ≠ (v632 : Value).ownBlock ∧ some k_ ≠ (.slice (some ad650) t638.length co43 : Value).ownBlock)) (by (with_reducible repeat (first | apply Kd.S_alloc | apply Kd.S_drewN | apply Kd.S_drew)); exact Kd.S_mono HO_5.out (fun _ hk => ⟨⟨hk.1, hk.2.1⟩, hk.2.2⟩)) hg (.inl rfl)); have n1_ := Aside0.mk (Kd.R_after (v := (.slice (some ⟨go63, 0, none⟩) x13_6.length co63)) (v1 := (.slice (some ⟨go63, 0, none⟩) x13_6.length co63)) (ok := (fun _ => True)) (by (with_reducible repeat (first | apply Kd.R_alloc | apply Kd.R_drewN | apply Kd.R_drew)); exact Kd.R_mono HO_8.out (fun _ hk => ⟨trivial, hk⟩)) hg (.inl rfl)); have nL_ := Aside0.mk (Kd.R_after (v := (.slice (some ⟨go63, 0, none⟩) x13_6.length co63)) (v1 := (.slice (some ⟨go63, 0, none⟩) x13_6.length co63)) (ok := (fun _ => True)) (by (with_reducible repeat (first | apply Kd.R_alloc | apply Kd.R_drewN | apply Kd.R_drew)); exact Kd.R_mono HO_L.out (fun _ hk => ⟨trivial, hk⟩)) hg (.inl rfl)); have n2_ := Aside0.mk (Kd.S_after (v := (.slice (some ⟨go63, 0, none⟩) x13_6.length co63)) (v1 := (.slice (some ⟨go63, 0, none⟩) x13_6.length co63)) (ok := (fun k_ => some k_ ≠ (.slice Ao8 t623.length co8 : Value).ownBlock ∧ some k_ ≠ (v632 : Value).ownBlock)) (by (with_reducible repeat (first | apply Kd.S_alloc | apply Kd.S_drewN | apply Kd.S_drew)); exact Kd.S_mono HO_10.out (fun _ hk => ⟨⟨hk.1, hk.2.1⟩, hk.2.2⟩)) hg (.inl rfl)); have n3_ := Aside0.mk (hp_); have n4_ := Aside0.mk ((by rw [hw]; exact below_set (HB.out) GB63.out : Below w.heap.size w w68)); clear HO_5; clear HO_8; clear HO_L; clear HO_10; clear HO_13; clear HB; have HO_5 := n0_; have HO_8 := n1_; have HO_L := nL_; have HO_10 := n2_; have HO_13 := n3_; have HB := n4_; clear nL_ n0_ n1_ n2_ n3_ n4_; clear hg hw hp_; have p66 : 0 ≤ ((rd (rd_L1 t638 x14_5) (ji58)) : Int) := of_decide_eq_true (by first | (with_reducible assumption) | assumption); have q66 : ((rd (rd_L1 t638 x14_5) (ji58)) : Int) < ((x13_6.length : Int) : Int) := of_decide_eq_true (by first | (with_reducible assumption) | assumption); obtain ⟨hx66_0, hf66_0⟩ := Kd.R_celln 0 HO_13.out ((rd (rd_L1 t638 x14_5) (ji58)) : Int) p66 q66; replace p66 := eq_true p66; replace q66 := eq_true q66; obtain ⟨hy69_, hz69_⟩ := Kd.R_celln 0 HO_13.out ((rd (rd_L1 t638 x14_5) (ji58)) : Int) (of_decide_eq_true (by first | (with_reducible assumption) | assumption)) (of_decide_eq_true (by first | (with_reducible assumption) | assumption)); have HP69 := Kd.R_putg HO_13.out ((rd (rd_L1 t638 x14_5) (ji58)) : Int) (rd (rd_L1 t638 x14_5) (ji55))) | ((with_reducible refine gate_store (t := 3) (p := 152) rfl ?_); (try (rw [drewN_self w68]; generalize hq_ : World.drewN w68 _ = w68; have n0_ := Aside0.mk (Kd.S_at hq_ HO_5.out); have n1_ := Aside0.mk (Kd.R_at hq_ HO_8.out); have nL_ := Aside0.mk (Kd.R_at hq_ HO_L.out); have n2_ := Aside0.mk (Kd.S_at hq_ HO_10.out); have n3_ := Aside0.mk (Kd.R_at hq_ HO_13.out); have n4_ := Aside0.mk (below_at hq_ HB.out); clear hq_ HO_5 HO_8 HO_L HO_10 HO_13 HB; have HO_5 := n0_; have HO_8 := n1_; have HO_L := nL_; have HO_10 := n2_; have HO_13 := n3_; have HB := n4_; clear nL_ n0_ n1_ n2_ n3_ n4_; (try (obtain ⟨hy69_, hz69_⟩ := Kd.R_celln 0 HO_13.out ((rd (rd_L1 t638 x14_5) (ji58)) : Int) (of_decide_eq_true (by first | (with_reducible assumption) | assumption)) (of_decide_eq_true (by first | (with_reducible assumption) | assumption)))); (try (have HP69 := Kd.R_putg HO_13.out ((rd (rd_L1 t638 x14_5) (ji58)) : Int) (rd (rd_L1 t638 x14_5) (ji55)))))); refine store_event (t := 3) (p := 152) (v := ?vo_w70) (w1 := (w68.setCell ⟨go63, ((rd (rd_L1 t638 x14_5) (ji58)) : Int).toNat, none⟩ (.int .i64 (rd (rd_L1 t638 x14_5) (ji55))))) ?hg ?ho ?hn ?hr ?_; (case ho => rfl); (case hg => rfl); (case hn => rfl); (case hr => first | (go_simp; done) | (go_simp; rfl)); intro w70 hw; have hg : w68.grownBy w70 (some go63) := (by rw [hw]; exact HP69.2); have hp_ : Kd.R (Kd.int .i64) 3 w70 w.heap.size (fun k_ => some k_ ≠ (v632 : Value).ownBlock) (.slice (some ⟨go63, 0, none⟩) x13_6.length co63) y654 := (by rw [hw, Ny654.out]; exact HP69.1); clear HP69; have n0_ := Aside0.mk (Kd.S_after (v := (.slice (some ⟨go63, 0, none⟩) x13_6.length co63)) (v1 := (.slice (some ⟨go63, 0, none⟩) x13_6.length co63)) (ok := (fun k_ => some k_ ≠ (v632 : Value).ownBlock ∧ some k_ ≠ (.slice (some ad650) t638.length co43 : Value).ownBlock)) (by (with_reducible repeat (first | apply Kd.S_alloc | apply Kd.S_drewN | apply Kd.S_drew)); exact HO_5.out) hg (.inl rfl)); have n1_ := Aside0.mk (Kd.R_after (v := (.slice (some ⟨go63, 0, none⟩) x13_6.length co63)) (v1 := (.slice (some ⟨go63, 0, none⟩) x13_6.length co63)) (ok := (fun _ => True)) (by (with_reducible repeat (first | apply Kd.R_alloc | apply Kd.R_drewN | apply Kd.R_drew)); exact HO_8.out) hg (.inl rfl)); have nL_ := Aside0.mk (Kd.R_after (v := (.slice (some ⟨go63, 0, none⟩) x13_6.length co63)) (v1 := (.slice (some ⟨go63, 0, none⟩) x13_6.length co63)) (ok := (fun _ => True)) (by (with_reducible repeat (first | apply Kd.R_alloc | apply Kd.R_drewN | apply Kd.R_drew)); exact HO_L.out) hg (.inl rfl)); have n2_ := Aside0.mk (Kd.S_after (v := (.slice (some ⟨go63, 0, none⟩) x13_6.length co63)) (v1 := (.slice (some ⟨go63, 0, none⟩) x13_6.length co63)) (ok := (fun k_ => some k_ ≠ (.slice Ao8 t623.length co8 : Value).ownBlock ∧ some k_ ≠ (v632 : Value).ownBlock)) (by (with_reducible repeat (first | apply Kd.S_alloc | apply Kd.S_drewN | apply Kd.S_drew)); exact HO_10.out) hg (.inl rfl)); have n3_ := Aside0.mk (hp_); have n4_ := Aside0.mk ((by rw [hw]; exact below_set (HB.out) GB63.out : Below w.heap.size w w70)); clear HO_5; clear HO_8; clear HO_L; clear HO_10; clear HO_13; clear HB; have HO_5 := n0_; have HO_8 := n1_; have HO_L := nL_; have HO_10 := n2_; have HO_13 := n3_; have HB := n4_; clear nL_ n0_ n1_ n2_ n3_ n4_; clear hg hw hp_)); try go_wp2_with (first | ((with_reducible refine gate_store (t := 3) (p := 151) rfl ?_); (try (rw [drewN_self wr]; generalize hq_ : World.drewN wr _ = wr; have n0_ := Aside0.mk (Kd.S_at hq_ HO_5.out); have n1_ := Aside0.mk (Kd.R_at hq_ HO_8.out); have nL_ := Aside0.mk (Kd.R_at hq_ HO_L.out); have n2_ := Aside0.mk (Kd.S_at hq_ HO_10.out); have n3_ := Aside0.mk (Kd.R_at hq_ HO_13.out); have n4_ := Aside0.mk (below_at hq_ HB.out); clear hq_ HO_5 HO_8 HO_L HO_10 HO_13 HB; have HO_5 := n0_; have HO_8 := n1_; have HO_L := nL_; have HO_10 := n2_; have HO_13 := n3_; have HB := n4_; clear nL_ n0_ n1_ n2_ n3_ n4_; (try (obtain ⟨hx63_, hf63_⟩ := Kd.R_celln 0 HO_13.out ((rd (rd_L1 t638 x14_5) (ji55)) : Int) (of_decide_eq_true (by first | (with_reducible assumption) | assumption)) (of_decide_eq_true (by first | (with_reducible assumption) | assumption)))); (try (have HP67 := Kd.R_putg HO_13.out ((rd (rd_L1 t638 x14_5) (ji55)) : Int) (rd (rd_L1 t638 x14_5) (ji58)))))); refine store_event (t := 3) (p := 151) (v := ?vo_w68) (w1 := (wr.setCell ⟨go63, ((rd (rd_L1 t638 x14_5) (ji55)) : Int).toNat, none⟩ (.int .i64 (rd (rd_L1 t638 x14_5) (ji58))))) ?hg ?ho ?hn ?hr ?_; (case ho => rfl); (case hg => rfl); (case hn => rfl); (case hr => first | (go_simp; done) | (go_simp; rfl)); intro w68 hw; have hg : wr.grownBy w68 (some go63) := (by rw [hw]; exact HP67.2); have hp_ : Kd.R (Kd.int .i64) 3 w68 w.heap.size (fun k_ => some k_ ≠ (v632 : Value).ownBlock) (.slice (some ⟨go63, 0, none⟩) x13_6.length co63) y653 := (by rw [hw, Ny653.out]; exact HP67.1); clear HP67; have n0_ := Aside0.mk (Kd.S_after (v := (.slice (some ⟨go63, 0, none⟩) x13_6.length co63)) (v1 := (.slice (some ⟨go63, 0, none⟩) x13_6.length co63)) (ok := (fun k_ => some k_ ≠ (v632 : Value).ownBlock ∧ some k_ ≠ (.slice (some ad650) t638.length co43 : Value).ownBlock)) (by (with_reducible repeat (first | apply Kd.S_alloc | apply Kd.S_drewN | apply Kd.S_drew)); exact Kd.S_mono HO_5.out (fun _ hk => ⟨⟨hk.1, hk.2.1⟩, hk.2.2⟩)) hg (.inl rfl)); have n1_ := Aside0.mk (Kd.R_after (v := (.slice (some ⟨go63, 0, none⟩) x13_6.length co63)) (v1 := (.slice (some ⟨go63, 0, none⟩) x13_6.length co63)) (ok := (fun _ => True)) (by (with_reducible repeat (first | apply Kd.R_alloc | apply Kd.R_drewN | apply Kd.R_drew)); exact Kd.R_mono HO_8.out (fun _ hk => ⟨trivial, hk⟩)) hg (.inl rfl)); have nL_ := Aside0.mk (Kd.R_after (v := (.slice (some ⟨go63, 0, none⟩) x13_6.length co63)) (v1 := (.slice (some ⟨go63, 0, none⟩) x13_6.length co63)) (ok := (fun _ => True)) (by (with_reducible repeat (first | apply Kd.R_alloc | apply Kd.R_drewN | apply Kd.R_drew)); exact Kd.R_mono HO_L.out (fun _ hk => ⟨trivial, hk⟩)) hg (.inl rfl)); have n2_ := Aside0.mk (Kd.S_after (v := (.slice (some ⟨go63, 0, none⟩) x13_6.length co63)) (v1 := (.slice (some ⟨go63, 0, none⟩) x13_6.length co63)) (ok := (fun k_ => some k_ ≠ (.slice Ao8 t623.length co8 : Value).ownBlock ∧ some k_ ≠ (v632 : Value).ownBlock)) (by (with_reducible repeat (first | apply Kd.S_alloc | apply Kd.S_drewN | apply Kd.S_drew)); exact Kd.S_mono HO_10.out (fun _ hk => ⟨⟨hk.1, hk.2.1⟩, hk.2.2⟩)) hg (.inl rfl)); have n3_ := Aside0.mk (hp_); have n4_ := Aside0.mk ((by rw [hw]; exact below_set (HB.out) GB63.out : Below w.heap.size w w68)); clear HO_5; clear HO_8; clear HO_L; clear HO_10; clear HO_13; clear HB; have HO_5 := n0_; have HO_8 := n1_; have HO_L := nL_; have HO_10 := n2_; have HO_13 := n3_; have HB := n4_; clear nL_ n0_ n1_ n2_ n3_ n4_; clear hg hw hp_; have p66 : 0 ≤ ((rd (rd_L1 t638 x14_5) (ji58)) : Int) := of_decide_eq_true (by first | (with_reducible assumption) | assumption); have q66 : ((rd (rd_L1 t638 x14_5) (ji58)) : Int) < ((x13_6.length : Int) : Int) := of_decide_eq_true (by first | (with_reducible assumption) | assumption); obtain ⟨hx66_0, hf66_0⟩ := Kd.R_celln 0 HO_13.out ((rd (rd_L1 t638 x14_5) (ji58)) : Int) p66 q66; replace p66 := eq_true p66; replace q66 := eq_true q66; obtain ⟨hy69_, hz69_⟩ := Kd.R_celln 0 HO_13.out ((rd (rd_L1 t638 x14_5) (ji58)) : Int) (of_decide_eq_true (by first | (with_reducible assumption) | assumption)) (of_decide_eq_true (by first | (with_reducible assumption) | assumption)); have HP69 := Kd.R_putg HO_13.out ((rd (rd_L1 t638 x14_5) (ji58)) : Int) (rd (rd_L1 t638 x14_5) (ji55))) | ((with_reducible refine gate_store (t := 3) (p := 152) rfl ?_); (try (rw [drewN_self w68]; generalize hq_ : World.drewN w68 _ = w68; have n0_ := Aside0.mk (Kd.S_at hq_ HO_5.out); have n1_ := Aside0.mk (Kd.R_at hq_ HO_8.out); have nL_ := Aside0.mk (Kd.R_at hq_ HO_L.out); have n2_ := Aside0.mk (Kd.S_at hq_ HO_10.out); have n3_ := Aside0.mk (Kd.R_at hq_ HO_13.out); have n4_ := Aside0.mk (below_at hq_ HB.out); clear hq_ HO_5 HO_8 HO_L HO_10 HO_13 HB; have HO_5 := n0_; have HO_8 := n1_; have HO_L := nL_; have HO_10 := n2_; have HO_13 := n3_; have HB := n4_; clear nL_ n0_ n1_ n2_ n3_ n4_; (try (obtain ⟨hy69_, hz69_⟩ := Kd.R_celln 0 HO_13.out ((rd (rd_L1 t638 x14_5) (ji58)) : Int) (of_decide_eq_true (by first | (with_reducible assumption) | assumption)) (of_decide_eq_true (by first | (with_reducible assumption) | assumption)))); (try (have HP69 := Kd.R_putg HO_13.out ((rd (rd_L1 t638 x14_5) (ji58)) : Int) (rd (rd_L1 t638 x14_5) (ji55)))))); refine store_event (t := 3) (p := 152) (v := ?vo_w70) (w1 := (w68.setCell ⟨go63, ((rd (rd_L1 t638 x14_5) (ji58)) : Int).toNat, none⟩ (.int .i64 (rd (rd_L1 t638 x14_5) (ji55))))) ?hg ?ho ?hn ?hr ?_; (case ho => rfl); (case hg => rfl); (case hn => rfl); (case hr => first | (go_simp; done) | (go_simp; rfl)); intro w70 hw; have hg : w68.grownBy w70 (some go63) := (by rw [hw]; exact HP69.2); have hp_ : Kd.R (Kd.int .i64) 3 w70 w.heap.size (fun k_ => some k_ ≠ (v632 : Value).ownBlock) (.slice (some ⟨go63, 0, none⟩) x13_6.length co63) y654 := (by rw [hw, Ny654.out]; exact HP69.1); clear HP69; have n0_ := Aside0.mk (Kd.S_after (v := (.slice (some ⟨go63, 0, none⟩) x13_6.length co63)) (v1 := (.slice (some ⟨go63, 0, none⟩) x13_6.length co63)) (ok := (fun k_ => some k_ ≠ (v632 : Value).ownBlock ∧ some k_ ≠ (.slice (some ad650) t638.length co43 : Value).ownBlock)) (by (with_reducible repeat (first | apply Kd.S_alloc | apply Kd.S_drewN | apply Kd.S_drew)); exact HO_5.out) hg (.inl rfl)); have n1_ := Aside0.mk (Kd.R_after (v := (.slice (some ⟨go63, 0, none⟩) x13_6.length co63)) (v1 := (.slice (some ⟨go63, 0, none⟩) x13_6.length co63)) (ok := (fun _ => True)) (by (with_reducible repeat (first | apply Kd.R_alloc | apply Kd.R_drewN | apply Kd.R_drew)); exact HO_8.out) hg (.inl rfl)); have nL_ := Aside0.mk (Kd.R_after (v := (.slice (some ⟨go63, 0, none⟩) x13_6.length co63)) (v1 := (.slice (some ⟨go63, 0, none⟩) x13_6.length co63)) (ok := (fun _ => True)) (by (with_reducible repeat (first | apply Kd.R_alloc | apply Kd.R_drewN | apply Kd.R_drew)); exact HO_L.out) hg (.inl rfl)); have n2_ := Aside0.mk (Kd.S_after (v := (.slice (some ⟨go63, 0, none⟩) x13_6.length co63)) (v1 := (.slice (some ⟨go63, 0, none⟩) x13_6.length co63)) (ok := (fun k_ => some k_ ≠ (.slice Ao8 t623.length co8 : Value).ownBlock ∧ some k_ ≠ (v632 : Value).ownBlock)) (by (with_reducible repeat (first | apply Kd.S_alloc | apply Kd.S_drewN | apply Kd.S_drew)); exact HO_10.out) hg (.inl rfl)); have n3_ := Aside0.mk (hp_); have n4_ := Aside0.mk ((by rw [hw]; exact below_set (HB.out) GB63.out : Below w.heap.size w w70)); clear HO_5; clear HO_8; clear HO_L; clear HO_10; clear HO_13; clear HB; have HO_5 := n0_; have HO_8 := n1_; have HO_L := nL_; have HO_10 := n2_; have HO_13 := n3_; have HB := n4_; clear nL_ n0_ n1_ n2_ n3_ n4_; clear hg hw hp_)))
                                                          go_roundg k6
                                                          case measure => have := HJ5.out; have := HK2.out; have := HJ41.out; have := HK4.out; have := HK5.out; have := HK6.out; omega
                                                          case rel => exact ⟨(y654), (wrap64 (x16_6 + 2)), (by first | rfl | (simp; done) | (simp [*]; done)), H', ⟨by have := HJ5.out; have := HK2.out; have := HJ41.out; have := HK4.out; have := HK5.out; have := HK6.out; omega⟩, ⟨by (with_reducible repeat (first | apply Kd.S_alloc | apply Kd.S_drewN | apply Kd.S_drew)); exact Kd.S_mono HO_5.out (fun _ hk => ⟨hk.1.1, ⟨hk.1.2, hk.2⟩⟩)⟩, ⟨by (with_reducible repeat (first | apply Kd.R_alloc | apply Kd.R_drewN | apply Kd.R_drew)); exact Kd.R_mono HO_8.out (fun _ hk => hk.2)⟩, ⟨by (with_reducible repeat (first | apply Kd.R_alloc | apply Kd.R_drewN | apply Kd.R_drew)); exact Kd.R_mono HO_L.out (fun _ hk => hk.2)⟩, ⟨by (with_reducible repeat (first | apply Kd.S_alloc | apply Kd.S_drewN | apply Kd.S_drew)); exact Kd.S_mono HO_10.out (fun _ hk => ⟨hk.1.1, ⟨hk.1.2, hk.2⟩⟩)⟩, ⟨by (with_reducible repeat (first | apply Kd.R_alloc | apply Kd.R_drewN | apply Kd.R_drew)); exact HO_13.out⟩, ⟨by repeat (first | (with_reducible first | exact HB.out | apply below_alloc | apply pw_below_drewN | apply below_drew1) | exact HB.out)⟩⟩
                                                        · rw [if_neg c65] at H
                                                          exact absurd H (by simp)
                                                      · rw [if_neg c64] at H
                                                        exact absurd H (by simp)
                                                    · rw [if_neg c62] at H
                                                      exact absurd H (by simp)
                                                  · rw [if_neg c61] at H
                                                    exact absurd H (by simp)
                                                · rw [if_neg c60] at H
                                                  exact absurd H (by simp)
                                              · rw [if_neg c59] at H
                                                exact absurd H (by simp)
                                            · rw [if_neg c57] at H
                                              exact absurd H (by simp)
                                          · rw [if_neg c56] at H
                                            exact absurd H (by simp)
                                      · rw [if_neg c53] at H
                                        have c53b0 : decide ((wrap64 (x16_6 + 1)) < ((rd_L1 t638 x14_5).length : Int)) = false := decide_eq_false c53
                                        clear c53
                                        have H' := Aside0.mk H
                                        clear H
                                        go_wp2
                                        repeat (go_quiet (fail); try go_wp2)
                                        go_roundg k6
                                        case measure => have := HJ5.out; have := HK2.out; have := HJ41.out; have := HK4.out; have := HK5.out; have := HK6.out; omega
                                        case rel => exact ⟨(x13_6), (wrap64 (x14_5 + 1)), (by first | rfl | (simp; done) | (simp [*]; done)), H', ⟨by have := HJ5.out; have := HK2.out; have := HJ41.out; have := HK4.out; have := HK5.out; have := HK6.out; omega⟩, ⟨by (with_reducible repeat (first | apply Kd.S_alloc | apply Kd.S_drewN | apply Kd.S_drew)); exact HO_5.out⟩, ⟨by (with_reducible repeat (first | apply Kd.R_alloc | apply Kd.R_drewN | apply Kd.R_drew)); exact HO_8.out⟩, ⟨by (with_reducible repeat (first | apply Kd.S_alloc | apply Kd.S_drewN | apply Kd.S_drew)); exact HO_10.out⟩, ⟨by (with_reducible repeat (first | apply Kd.R_alloc | apply Kd.R_drewN | apply Kd.R_drew)); exact HO_13.out⟩, ⟨by repeat (first | (with_reducible first | exact HB.out | apply below_alloc | apply pw_below_drewN | apply below_drew1) | exact HB.out)⟩⟩
                                · rw [if_neg c52] at H
                                  exact absurd H (by simp)
                              · rw [if_neg c51] at H
                                have c51b0 : decide (x14_5 < (t638.length : Int)) = false := decide_eq_false c51
                                clear c51
                                replace H := Option.bind_eq_some_iff.mp H
                                obtain ⟨⟨t655, t656, t657⟩, A710, H⟩ := H
                                replace H : (if t657 = true then (some false) else ((pair_Blocks.f t623 x13_5).bind fun bt658 => (if bt658.2.2 = 5 then (gamplaw07_PairEven.l1 k5 t623 x8_4 t638 (wrap64 (x12_4 + 1))) else (some false)))) = some r := H
                                have A71 := Aside0.mk A710
                                clear A710
                                by_cases c72 : t657 = true
                                · subst c72
                                  have H1 : (some false) = some r := by rw [if_pos rfl] at H; exact H
                                  clear H
                                  have H := H1
                                  clear H1
                                  obtain rfl := Option.some.inj H
                                  obtain ⟨Ao73, co73, eo73⟩ := Kd.R_slice HO_13.out
                                  subst eo73
                                  go_wp2_with (first | (go_at_call 19; (with_reducible refine (gampref07_Blocks.calls k5 _ _ t623 _ _ x13_5 t655 t656 true _ ?side1 ?side2 ?side3 ?side4 A71.out).mono ?_); (case side1 => repeat (first | exact (Kd.S_reads' HO_5.out).2.2 | (with_reducible refine Kd.C_alloc ?_ _) | (with_reducible refine Kd.C_drewN ?_ _) | (with_reducible refine Kd.C_drew ?_))); (case side2 => exact (Kd.S_reads' HO_5.out).2.1); (case side3 => repeat (first | exact (Kd.R_reads' HO_13.out).2.2 | (with_reducible refine Kd.C_alloc ?_ _) | (with_reducible refine Kd.C_drewN ?_ _) | (with_reducible refine Kd.C_drew ?_))); (case side4 => exact (Kd.R_reads' HO_13.out).2.1); rintro e w' ⟨rfl, ⟨nd, rfl⟩⟩; (try first | exact ⟨rfl, _, World.drewN_drewN _ _ _⟩ | exact ⟨rfl, _, Eq.trans (World.drewN_drewN _ _ _) (congrArg (World.drewN _) (Nat.add_assoc _ _ _))⟩)))
                                  repeat (go_quiet (first | (go_at_call 19; (with_reducible refine (gampref07_Blocks.calls k5 _ _ t623 _ _ x13_5 t655 t656 true _ ?side1 ?side2 ?side3 ?side4 A71.out).mono ?_); (case side1 => repeat (first | exact (Kd.S_reads' HO_5.out).2.2 | (with_reducible refine Kd.C_alloc ?_ _) | (with_reducible refine Kd.C_drewN ?_ _) | (with_reducible refine Kd.C_drew ?_))); (case side2 => exact (Kd.S_reads' HO_5.out).2.1); (case side3 => repeat (first | exact (Kd.R_reads' HO_13.out).2.2 | (with_reducible refine Kd.C_alloc ?_ _) | (with_reducible refine Kd.C_drewN ?_ _) | (with_reducible refine Kd.C_drew ?_))); (case side4 => exact (Kd.R_reads' HO_13.out).2.1); rintro e w' ⟨rfl, ⟨nd, rfl⟩⟩; (try first | exact ⟨rfl, _, World.drewN_drewN _ _ _⟩ | exact ⟨rfl, _, Eq.trans (World.drewN_drewN _ _ _) (congrArg (World.drewN _) (Nat.add_assoc _ _ _))⟩))); try go_wp2_with (first | (go_at_call 19; (with_reducible refine (gampref07_Blocks.calls k5 _ _ t623 _ _ x13_5 t655 t656 true _ ?side1 ?side2 ?side3 ?side4 A71.out).mono ?_); (case side1 => repeat (first | exact (Kd.S_reads' HO_5.out).2.2 | (with_reducible refine Kd.C_alloc ?_ _) | (with_reducible refine Kd.C_drewN ?_ _) | (with_reducible refine Kd.C_drew ?_))); (case side2 => exact (Kd.S_reads' HO_5.out).2.1); (case side3 => repeat (first | exact (Kd.R_reads' HO_13.out).2.2 | (with_reducible refine Kd.C_alloc ?_ _) | (with_reducible refine Kd.C_drewN ?_ _) | (with_reducible refine Kd.C_drew ?_))); (case side4 => exact (Kd.R_reads' HO_13.out).2.1); rintro e w' ⟨rfl, ⟨nd, rfl⟩⟩; (try first | exact ⟨rfl, _, World.drewN_drewN _ _ _⟩ | exact ⟨rfl, _, Eq.trans (World.drewN_drewN _ _ _) (congrArg (World.drewN _) (Nat.add_assoc _ _ _))⟩))))
                                  go_ret
                                  exact ⟨by first | rfl | (simp [errW_none, errW_some] <;> rfl) | (simp [*, errW_none, errW_some] <;> rfl), by repeat (first | (with_reducible first | exact HB.out | apply below_alloc | apply pw_below_drewN | apply below_drew1) | exact HB.out)⟩
                                · replace c72 := Bool.eq_false_iff.mpr c72
                                  subst c72
                                  have H1 : ((pair_Blocks.f t623 x13_5).bind fun bt658 => (if bt658.2.2 = 5 then (gamplaw07_PairEven.l1 k5 t623 x8_4 t638 (wrap64 (x12_4 + 1))) else (some false))) = some r := by rw [if_neg (show ¬ (false = true) by decide)] at H; exact H
                                  clear H
                                  have H := H1
                                  clear H1
                                  replace H := Option.bind_eq_some_iff.mp H
                                  obtain ⟨⟨t658, t659, t660⟩, A740, H⟩ := H
                                  replace H : (if t660 = 5 then (gamplaw07_PairEven.l1 k5 t623 x8_4 t638 (wrap64 (x12_4 + 1))) else (some false)) = some r := H
                                  have A74 := Aside0.mk A740
                                  clear A740
                                  by_cases c75 : t660 = 5
                                  · rw [if_pos c75] at H
                                    have c75b0 : (t660 == 5) = true := beq_iff_eq.mpr c75
                                    have c75b1 : (t660 != 5) = false := bne_eq_false_iff_eq.mpr c75
                                    clear c75
                                    have H' := Aside0.mk H
                                    clear H
                                    obtain ⟨Ao76, co76, eo76⟩ := Kd.R_slice HO_13.out
                                    subst eo76
                                    go_wp2_with (first | (go_at_call 19; (with_reducible refine (gampref07_Blocks.calls k5 _ _ t623 _ _ x13_5 t655 t656 false _ ?side1 ?side2 ?side3 ?side4 A71.out).mono ?_); (case side1 => repeat (first | exact (Kd.S_reads' HO_5.out).2.2 | (with_reducible refine Kd.C_alloc ?_ _) | (with_reducible refine Kd.C_drewN ?_ _) | (with_reducible refine Kd.C_drew ?_))); (case side2 => exact (Kd.S_reads' HO_5.out).2.1); (case side3 => repeat (first | exact (Kd.R_reads' HO_13.out).2.2 | (with_reducible refine Kd.C_alloc ?_ _) | (with_reducible refine Kd.C_drewN ?_ _) | (with_reducible refine Kd.C_drew ?_))); (case side4 => exact (Kd.R_reads' HO_13.out).2.1); rintro e w' ⟨rfl, ⟨nd, rfl⟩⟩; (try first | exact ⟨rfl, _, World.drewN_drewN _ _ _⟩ | exact ⟨rfl, _, Eq.trans (World.drewN_drewN _ _ _) (congrArg (World.drewN _) (Nat.add_assoc _ _ _))⟩)) | (go_at_call 29; (with_reducible refine (pair_Blocks.calls _ _ t623 _ _ x13_5 t658 t659 t660 _ ?side1 ?side2 ?side3 ?side4 A74.out).mono ?_); (case side1 => repeat (first | exact (Kd.S_reads' HO_5.out).2.2 | (with_reducible refine Kd.C_alloc ?_ _) | (with_reducible refine Kd.C_drewN ?_ _) | (with_reducible refine Kd.C_drew ?_))); (case side2 => exact (Kd.S_reads' HO_5.out).2.1); (case side3 => repeat (first | exact (Kd.R_reads' HO_13.out).2.2 | (with_reducible refine Kd.C_alloc ?_ _) | (with_reducible refine Kd.C_drewN ?_ _) | (with_reducible refine Kd.C_drew ?_))); (case side4 => exact (Kd.R_reads' HO_13.out).2.1); rintro e w77 ⟨rfl, hb⟩; have n0_ := Aside0.mk (Kd.S_below (by (with_reducible repeat (first | apply Kd.S_alloc | apply Kd.S_drewN | apply Kd.S_drew)); exact HO_5.out) hb); have n1_ := Aside0.mk (Kd.R_below (by (with_reducible repeat (first | apply Kd.R_alloc | apply Kd.R_drewN | apply Kd.R_drew)); exact HO_8.out) hb); have n2_ := Aside0.mk (Kd.S_below (by (with_reducible repeat (first | apply Kd.S_alloc | apply Kd.S_drewN | apply Kd.S_drew)); exact HO_10.out) hb); have n3_ := Aside0.mk (Kd.R_below (by (with_reducible repeat (first | apply Kd.R_alloc | apply Kd.R_drewN | apply Kd.R_drew)); exact HO_13.out) hb); have n4_ := Aside0.mk (below_step (by repeat (first | (with_reducible first | exact HB.out | apply below_alloc | apply pw_below_drewN | apply below_drew1) | exact HB.out)) hb); clear HO_5; clear HO_8; clear HO_10; clear HO_13; clear HB; have HO_5 := n0_; have HO_8 := n1_; have HO_10 := n2_; have HO_13 := n3_; have HB := n4_; clear n0_ n1_ n2_ n3_ n4_; (try clear hb); (try clear hb2); (try clear hk); (try clear hi)))
                                    repeat (go_quiet (first | (go_at_call 19; (with_reducible refine (gampref07_Blocks.calls k5 _ _ t623 _ _ x13_5 t655 t656 false _ ?side1 ?side2 ?side3 ?side4 A71.out).mono ?_); (case side1 => repeat (first | exact (Kd.S_reads' HO_5.out).2.2 | (with_reducible refine Kd.C_alloc ?_ _) | (with_reducible refine Kd.C_drewN ?_ _) | (with_reducible refine Kd.C_drew ?_))); (case side2 => exact (Kd.S_reads' HO_5.out).2.1); (case side3 => repeat (first | exact (Kd.R_reads' HO_13.out).2.2 | (with_reducible refine Kd.C_alloc ?_ _) | (with_reducible refine Kd.C_drewN ?_ _) | (with_reducible refine Kd.C_drew ?_))); (case side4 => exact (Kd.R_reads' HO_13.out).2.1); rintro e w' ⟨rfl, ⟨nd, rfl⟩⟩; (try first | exact ⟨rfl, _, World.drewN_drewN _ _ _⟩ | exact ⟨rfl, _, Eq.trans (World.drewN_drewN _ _ _) (congrArg (World.drewN _) (Nat.add_assoc _ _ _))⟩)) | (go_at_call 29; (with_reducible refine (pair_Blocks.calls _ _ t623 _ _ x13_5 t658 t659 t660 _ ?side1 ?side2 ?side3 ?side4 A74.out).mono ?_); (case side1 => repeat (first | exact (Kd.S_reads' HO_5.out).2.2 | (with_reducible refine Kd.C_alloc ?_ _) | (with_reducible refine Kd.C_drewN ?_ _) | (with_reducible refine Kd.C_drew ?_))); (case side2 => exact (Kd.S_reads' HO_5.out).2.1); (case side3 => repeat (first | exact (Kd.R_reads' HO_13.out).2.2 | (with_reducible refine Kd.C_alloc ?_ _) | (with_reducible refine Kd.C_drewN ?_ _) | (with_reducible refine Kd.C_drew ?_))); (case side4 => exact (Kd.R_reads' HO_13.out).2.1); rintro e w77 ⟨rfl, hb⟩; have n0_ := Aside0.mk (Kd.S_below (by (with_reducible repeat (first | apply Kd.S_alloc | apply Kd.S_drewN | apply Kd.S_drew)); exact HO_5.out) hb); have n1_ := Aside0.mk (Kd.R_below (by (with_reducible repeat (first | apply Kd.R_alloc | apply Kd.R_drewN | apply Kd.R_drew)); exact HO_8.out) hb); have n2_ := Aside0.mk (Kd.S_below (by (with_reducible repeat (first | apply Kd.S_alloc | apply Kd.S_drewN | apply Kd.S_drew)); exact HO_10.out) hb); have n3_ := Aside0.mk (Kd.R_below (by (with_reducible repeat (first | apply Kd.R_alloc | apply Kd.R_drewN | apply Kd.R_drew)); exact HO_13.out) hb); have n4_ := Aside0.mk (below_step (by repeat (first | (with_reducible first | exact HB.out | apply below_alloc | apply pw_below_drewN | apply below_drew1) | exact HB.out)) hb); clear HO_5; clear HO_8; clear HO_10; clear HO_13; clear HB; have HO_5 := n0_; have HO_8 := n1_; have HO_10 := n2_; have HO_13 := n3_; have HB := n4_; clear n0_ n1_ n2_ n3_ n4_; (try clear hb); (try clear hb2); (try clear hk); (try clear hi))); try go_wp2_with (first | (go_at_call 19; (with_reducible refine (gampref07_Blocks.calls k5 _ _ t623 _ _ x13_5 t655 t656 false _ ?side1 ?side2 ?side3 ?side4 A71.out).mono ?_); (case side1 => repeat (first | exact (Kd.S_reads' HO_5.out).2.2 | (with_reducible refine Kd.C_alloc ?_ _) | (with_reducible refine Kd.C_drewN ?_ _) | (with_reducible refine Kd.C_drew ?_))); (case side2 => exact (Kd.S_reads' HO_5.out).2.1); (case side3 => repeat (first | exact (Kd.R_reads' HO_13.out).2.2 | (with_reducible refine Kd.C_alloc ?_ _) | (with_reducible refine Kd.C_drewN ?_ _) | (with_reducible refine Kd.C_drew ?_))); (case side4 => exact (Kd.R_reads' HO_13.out).2.1); rintro e w' ⟨rfl, ⟨nd, rfl⟩⟩; (try first | exact ⟨rfl, _, World.drewN_drewN _ _ _⟩ | exact ⟨rfl, _, Eq.trans (World.drewN_drewN _ _ _) (congrArg (World.drewN _) (Nat.add_assoc _ _ _))⟩)) | (go_at_call 29; (with_reducible refine (pair_Blocks.calls _ _ t623 _ _ x13_5 t658 t659 t660 _ ?side1 ?side2 ?side3 ?side4 A74.out).mono ?_); (case side1 => repeat (first | exact (Kd.S_reads' HO_5.out).2.2 | (with_reducible refine Kd.C_alloc ?_ _) | (with_reducible refine Kd.C_drewN ?_ _) | (with_reducible refine Kd.C_drew ?_))); (case side2 => exact (Kd.S_reads' HO_5.out).2.1); (case side3 => repeat (first | exact (Kd.R_reads' HO_13.out).2.2 | (with_reducible refine Kd.C_alloc ?_ _) | (with_reducible refine Kd.C_drewN ?_ _) | (with_reducible refine Kd.C_drew ?_))); (case side4 => exact (Kd.R_reads' HO_13.out).2.1); rintro e w77 ⟨rfl, hb⟩; have n0_ := Aside0.mk (Kd.S_below (by (with_reducible repeat (first | apply Kd.S_alloc | apply Kd.S_drewN | apply Kd.S_drew)); exact HO_5.out) hb); have n1_ := Aside0.mk (Kd.R_below (by (with_reducible repeat (first | apply Kd.R_alloc | apply Kd.R_drewN | apply Kd.R_drew)); exact HO_8.out) hb); have n2_ := Aside0.mk (Kd.S_below (by (with_reducible repeat (first | apply Kd.S_alloc | apply Kd.S_drewN | apply Kd.S_drew)); exact HO_10.out) hb); have n3_ := Aside0.mk (Kd.R_below (by (with_reducible repeat (first | apply Kd.R_alloc | apply Kd.R_drewN | apply Kd.R_drew)); exact HO_13.out) hb); have n4_ := Aside0.mk (below_step (by repeat (first | (with_reducible first | exact HB.out | apply below_alloc | apply pw_below_drewN | apply below_drew1) | exact HB.out)) hb); clear HO_5; clear HO_8; clear HO_10; clear HO_13; clear HB; have HO_5 := n0_; have HO_8 := n1_; have HO_10 := n2_; have HO_13 := n3_; have HB := n4_; clear n0_ n1_ n2_ n3_ n4_; (try clear hb); (try clear hb2); (try clear hk); (try clear hi))))
                                    go_roundg k5
                                    case measure => have := HJ5.out; have := HK2.out; have := HJ41.out; have := HK4.out; have := HK5.out; omega
                                    case rel => exact ⟨(x8_4), (wrap64 (x12_4 + 1)), (by first | rfl | (simp; done) | (simp [*]; done)), H', ⟨by have := HJ5.out; have := HK2.out; have := HJ41.out; have := HK4.out; have := HK5.out; omega⟩, ⟨by (with_reducible repeat (first | apply Kd.S_alloc | apply Kd.S_drewN | apply Kd.S_drew)); exact Kd.S_mono HO_5.out (fun _ hk => ⟨hk.1, hk.2.1⟩)⟩, ⟨by (with_reducible repeat (first | apply Kd.R_alloc | apply Kd.R_drewN | apply Kd.R_drew)); exact Kd.R_mono HO_8.out (fun _ hk => trivial)⟩, ⟨by (with_reducible repeat (first | apply Kd.S_alloc | apply Kd.S_drewN | apply Kd.S_drew)); exact Kd.S_mono HO_10.out (fun _ hk => ⟨hk.1, hk.2.1⟩)⟩, ⟨by repeat (first | (with_reducible first | exact HB.out | apply below_alloc | apply pw_below_drewN | apply below_drew1) | exact HB.out)⟩⟩
                                  · rw [if_neg c75] at H
                                    have c75b0 : (t660 == 5) = false := beq_eq_false_iff_ne.mpr c75
                                    have c75b1 : (t660 != 5) = true := bne_iff_ne.mpr c75
                                    obtain rfl := Option.some.inj H
                                    obtain ⟨Ao78, co78, eo78⟩ := Kd.R_slice HO_13.out
                                    subst eo78
                                    go_wp2_with (first | (go_at_call 19; (with_reducible refine (gampref07_Blocks.calls k5 _ _ t623 _ _ x13_5 t655 t656 false _ ?side1 ?side2 ?side3 ?side4 A71.out).mono ?_); (case side1 => repeat (first | exact (Kd.S_reads' HO_5.out).2.2 | (with_reducible refine Kd.C_alloc ?_ _) | (with_reducible refine Kd.C_drewN ?_ _) | (with_reducible refine Kd.C_drew ?_))); (case side2 => exact (Kd.S_reads' HO_5.out).2.1); (case side3 => repeat (first | exact (Kd.R_reads' HO_13.out).2.2 | (with_reducible refine Kd.C_alloc ?_ _) | (with_reducible refine Kd.C_drewN ?_ _) | (with_reducible refine Kd.C_drew ?_))); (case side4 => exact (Kd.R_reads' HO_13.out).2.1); rintro e w' ⟨rfl, ⟨nd, rfl⟩⟩; (try first | exact ⟨rfl, _, World.drewN_drewN _ _ _⟩ | exact ⟨rfl, _, Eq.trans (World.drewN_drewN _ _ _) (congrArg (World.drewN _) (Nat.add_assoc _ _ _))⟩)) | (go_at_call 29; (with_reducible refine (pair_Blocks.calls _ _ t623 _ _ x13_5 t658 t659 t660 _ ?side1 ?side2 ?side3 ?side4 A74.out).mono ?_); (case side1 => repeat (first | exact (Kd.S_reads' HO_5.out).2.2 | (with_reducible refine Kd.C_alloc ?_ _) | (with_reducible refine Kd.C_drewN ?_ _) | (with_reducible refine Kd.C_drew ?_))); (case side2 => exact (Kd.S_reads' HO_5.out).2.1); (case side3 => repeat (first | exact (Kd.R_reads' HO_13.out).2.2 | (with_reducible refine Kd.C_alloc ?_ _) | (with_reducible refine Kd.C_drewN ?_ _) | (with_reducible refine Kd.C_drew ?_))); (case side4 => exact (Kd.R_reads' HO_13.out).2.1); rintro e w79 ⟨rfl, hb⟩; have n0_ := Aside0.mk (Kd.S_below (by (with_reducible repeat (first | apply Kd.S_alloc | apply Kd.S_drewN | apply Kd.S_drew)); exact HO_5.out) hb); have n1_ := Aside0.mk (Kd.R_below (by (with_reducible repeat (first | apply Kd.R_alloc | apply Kd.R_drewN | apply Kd.R_drew)); exact HO_8.out) hb); have n2_ := Aside0.mk (Kd.S_below (by (with_reducible repeat (first | apply Kd.S_alloc | apply Kd.S_drewN | apply Kd.S_drew)); exact HO_10.out) hb); have n3_ := Aside0.mk (Kd.R_below (by (with_reducible repeat (first | apply Kd.R_alloc | apply Kd.R_drewN | apply Kd.R_drew)); exact HO_13.out) hb); have n4_ := Aside0.mk (below_step (by repeat (first | (with_reducible first | exact HB.out | apply below_alloc | apply pw_below_drewN | apply below_drew1) | exact HB.out)) hb); clear HO_5; clear HO_8; clear HO_10; clear HO_13; clear HB; have HO_5 := n0_; have HO_8 := n1_; have HO_10 := n2_; have HO_13 := n3_; have HB := n4_; clear n0_ n1_ n2_ n3_ n4_; (try clear hb); (try clear hb2); (try clear hk); (try clear hi)))
                                    repeat (go_quiet (first | (go_at_call 19; (with_reducible refine (gampref07_Blocks.calls k5 _ _ t623 _ _ x13_5 t655 t656 false _ ?side1 ?side2 ?side3 ?side4 A71.out).mono ?_); (case side1 => repeat (first | exact (Kd.S_reads' HO_5.out).2.2 | (with_reducible refine Kd.C_alloc ?_ _) | (with_reducible refine Kd.C_drewN ?_ _) | (with_reducible refine Kd.C_drew ?_))); (case side2 => exact (Kd.S_reads' HO_5.out).2.1); (case side3 => repeat (first | exact (Kd.R_reads' HO_13.out).2.2 | (with_reducible refine Kd.C_alloc ?_ _) | (with_reducible refine Kd.C_drewN ?_ _) | (with_reducible refine Kd.C_drew ?_))); (case side4 => exact (Kd.R_reads' HO_13.out).2.1); rintro e w' ⟨rfl, ⟨nd, rfl⟩⟩; (try first | exact ⟨rfl, _, World.drewN_drewN _ _ _⟩ | exact ⟨rfl, _, Eq.trans (World.drewN_drewN _ _ _) (congrArg (World.drewN _) (Nat.add_assoc _ _ _))⟩)) | (go_at_call 29; (with_reducible refine (pair_Blocks.calls _ _ t623 _ _ x13_5 t658 t659 t660 _ ?side1 ?side2 ?side3 ?side4 A74.out).mono ?_); (case side1 => repeat (first | exact (Kd.S_reads' HO_5.out).2.2 | (with_reducible refine Kd.C_alloc ?_ _) | (with_reducible refine Kd.C_drewN ?_ _) | (with_reducible refine Kd.C_drew ?_))); (case side2 => exact (Kd.S_reads' HO_5.out).2.1); (case side3 => repeat (first | exact (Kd.R_reads' HO_13.out).2.2 | (with_reducible refine Kd.C_alloc ?_ _) | (with_reducible refine Kd.C_drewN ?_ _) | (with_reducible refine Kd.C_drew ?_))); (case side4 => exact (Kd.R_reads' HO_13.out).2.1); rintro e w79 ⟨rfl, hb⟩; have n0_ := Aside0.mk (Kd.S_below (by (with_reducible repeat (first | apply Kd.S_alloc | apply Kd.S_drewN | apply Kd.S_drew)); exact HO_5.out) hb); have n1_ := Aside0.mk (Kd.R_below (by (with_reducible repeat (first | apply Kd.R_alloc | apply Kd.R_drewN | apply Kd.R_drew)); exact HO_8.out) hb); have n2_ := Aside0.mk (Kd.S_below (by (with_reducible repeat (first | apply Kd.S_alloc | apply Kd.S_drewN | apply Kd.S_drew)); exact HO_10.out) hb); have n3_ := Aside0.mk (Kd.R_below (by (with_reducible repeat (first | apply Kd.R_alloc | apply Kd.R_drewN | apply Kd.R_drew)); exact HO_13.out) hb); have n4_ := Aside0.mk (below_step (by repeat (first | (with_reducible first | exact HB.out | apply below_alloc | apply pw_below_drewN | apply below_drew1) | exact HB.out)) hb); clear HO_5; clear HO_8; clear HO_10; clear HO_13; clear HB; have HO_5 := n0_; have HO_8 := n1_; have HO_10 := n2_; have HO_13 := n3_; have HB := n4_; clear n0_ n1_ n2_ n3_ n4_; (try clear hb); (try clear hb2); (try clear hk); (try clear hi))); try go_wp2_with (first | (go_at_call 19; (with_reducible refine (gampref07_Blocks.calls k5 _ _ t623 _ _ x13_5 t655 t656 false _ ?side1 ?side2 ?side3 ?side4 A71.out).mono ?_); (case side1 => repeat (first | exact (Kd.S_reads' HO_5.out).2.2 | (with_reducible refine Kd.C_alloc ?_ _) | (with_reducible refine Kd.C_drewN ?_ _) | (with_reducible refine Kd.C_drew ?_))); (case side2 => exact (Kd.S_reads' HO_5.out).2.1); (case side3 => repeat (first | exact (Kd.R_reads' HO_13.out).2.2 | (with_reducible refine Kd.C_alloc ?_ _) | (with_reducible refine Kd.C_drewN ?_ _) | (with_reducible refine Kd.C_drew ?_))); (case side4 => exact (Kd.R_reads' HO_13.out).2.1); rintro e w' ⟨rfl, ⟨nd, rfl⟩⟩; (try first | exact ⟨rfl, _, World.drewN_drewN _ _ _⟩ | exact ⟨rfl, _, Eq.trans (World.drewN_drewN _ _ _) (congrArg (World.drewN _) (Nat.add_assoc _ _ _))⟩)) | (go_at_call 29; (with_reducible refine (pair_Blocks.calls _ _ t623 _ _ x13_5 t658 t659 t660 _ ?side1 ?side2 ?side3 ?side4 A74.out).mono ?_); (case side1 => repeat (first | exact (Kd.S_reads' HO_5.out).2.2 | (with_reducible refine Kd.C_alloc ?_ _) | (with_reducible refine Kd.C_drewN ?_ _) | (with_reducible refine Kd.C_drew ?_))); (case side2 => exact (Kd.S_reads' HO_5.out).2.1); (case side3 => repeat (first | exact (Kd.R_reads' HO_13.out).2.2 | (with_reducible refine Kd.C_alloc ?_ _) | (with_reducible refine Kd.C_drewN ?_ _) | (with_reducible refine Kd.C_drew ?_))); (case side4 => exact (Kd.R_reads' HO_13.out).2.1); rintro e w79 ⟨rfl, hb⟩; have n0_ := Aside0.mk (Kd.S_below (by (with_reducible repeat (first | apply Kd.S_alloc | apply Kd.S_drewN | apply Kd.S_drew)); exact HO_5.out) hb); have n1_ := Aside0.mk (Kd.R_below (by (with_reducible repeat (first | apply Kd.R_alloc | apply Kd.R_drewN | apply Kd.R_drew)); exact HO_8.out) hb); have n2_ := Aside0.mk (Kd.S_below (by (with_reducible repeat (first | apply Kd.S_alloc | apply Kd.S_drewN | apply Kd.S_drew)); exact HO_10.out) hb); have n3_ := Aside0.mk (Kd.R_below (by (with_reducible repeat (first | apply Kd.R_alloc | apply Kd.R_drewN | apply Kd.R_drew)); exact HO_13.out) hb); have n4_ := Aside0.mk (below_step (by repeat (first | (with_reducible first | exact HB.out | apply below_alloc | apply pw_below_drewN | apply below_drew1) | exact HB.out)) hb); clear HO_5; clear HO_8; clear HO_10; clear HO_13; clear HB; have HO_5 := n0_; have HO_8 := n1_; have HO_10 := n2_; have HO_13 := n3_; have HB := n4_; clear n0_ n1_ n2_ n3_ n4_; (try clear hb); (try clear hb2); (try clear hk); (try clear hi))))
                                    go_ret
                                    exact ⟨by first | rfl | (simp [errW_none, errW_some] <;> rfl) | (simp [*, errW_none, errW_some] <;> rfl), by repeat (first | (with_reducible first | exact HB.out | apply below_alloc | apply pw_below_drewN | apply below_drew1) | exact HB.out)⟩
                        · rw [if_neg c48] at H
                          have c48b0 : decide (x12_4 < 2) = false := decide_eq_false c48
                          clear c48
                          replace H := Option.bind_eq_some_iff.mp H
                          obtain ⟨⟨t644, t645, t646⟩, A800, H⟩ := H
                          replace H : (some (!t646)) = some r := H
                          have A80 := Aside0.mk A800
                          clear A800
                          obtain rfl := Option.some.inj H
                          obtain ⟨Ao81, co81, eo81⟩ := Kd.R_slice HO_8.out
                          subst eo81
                          go_wp2_with (first | (go_at_call 19; (with_reducible refine (gampref07_Blocks.calls k4 _ _ t623 _ _ x8_4 t644 t645 t646 _ ?side1 ?side2 ?side3 ?side4 A80.out).mono ?_); (case side1 => repeat (first | exact (Kd.S_reads' HO_5.out).2.2 | (with_reducible refine Kd.C_alloc ?_ _) | (with_reducible refine Kd.C_drewN ?_ _) | (with_reducible refine Kd.C_drew ?_))); (case side2 => exact (Kd.S_reads' HO_5.out).2.1); (case side3 => repeat (first | exact (Kd.R_reads' HO_8.out).2.2 | (with_reducible refine Kd.C_alloc ?_ _) | (with_reducible refine Kd.C_drewN ?_ _) | (with_reducible refine Kd.C_drew ?_))); (case side4 => exact (Kd.R_reads' HO_8.out).2.1); rintro e w' ⟨rfl, ⟨nd, rfl⟩⟩; (try first | exact ⟨rfl, _, World.drewN_drewN _ _ _⟩ | exact ⟨rfl, _, Eq.trans (World.drewN_drewN _ _ _) (congrArg (World.drewN _) (Nat.add_assoc _ _ _))⟩)))
                          repeat (go_quiet (first | (go_at_call 19; (with_reducible refine (gampref07_Blocks.calls k4 _ _ t623 _ _ x8_4 t644 t645 t646 _ ?side1 ?side2 ?side3 ?side4 A80.out).mono ?_); (case side1 => repeat (first | exact (Kd.S_reads' HO_5.out).2.2 | (with_reducible refine Kd.C_alloc ?_ _) | (with_reducible refine Kd.C_drewN ?_ _) | (with_reducible refine Kd.C_drew ?_))); (case side2 => exact (Kd.S_reads' HO_5.out).2.1); (case side3 => repeat (first | exact (Kd.R_reads' HO_8.out).2.2 | (with_reducible refine Kd.C_alloc ?_ _) | (with_reducible refine Kd.C_drewN ?_ _) | (with_reducible refine Kd.C_drew ?_))); (case side4 => exact (Kd.R_reads' HO_8.out).2.1); rintro e w' ⟨rfl, ⟨nd, rfl⟩⟩; (try first | exact ⟨rfl, _, World.drewN_drewN _ _ _⟩ | exact ⟨rfl, _, Eq.trans (World.drewN_drewN _ _ _) (congrArg (World.drewN _) (Nat.add_assoc _ _ _))⟩))); try go_wp2_with (first | (go_at_call 19; (with_reducible refine (gampref07_Blocks.calls k4 _ _ t623 _ _ x8_4 t644 t645 t646 _ ?side1 ?side2 ?side3 ?side4 A80.out).mono ?_); (case side1 => repeat (first | exact (Kd.S_reads' HO_5.out).2.2 | (with_reducible refine Kd.C_alloc ?_ _) | (with_reducible refine Kd.C_drewN ?_ _) | (with_reducible refine Kd.C_drew ?_))); (case side2 => exact (Kd.S_reads' HO_5.out).2.1); (case side3 => repeat (first | exact (Kd.R_reads' HO_8.out).2.2 | (with_reducible refine Kd.C_alloc ?_ _) | (with_reducible refine Kd.C_drewN ?_ _) | (with_reducible refine Kd.C_drew ?_))); (case side4 => exact (Kd.R_reads' HO_8.out).2.1); rintro e w' ⟨rfl, ⟨nd, rfl⟩⟩; (try first | exact ⟨rfl, _, World.drewN_drewN _ _ _⟩ | exact ⟨rfl, _, Eq.trans (World.drewN_drewN _ _ _) (congrArg (World.drewN _) (Nat.add_assoc _ _ _))⟩))))
                          go_ret
                          exact ⟨by first | rfl | (simp [errW_none, errW_some] <;> rfl) | (simp [*, errW_none, errW_some] <;> rfl), by repeat (first | (with_reducible first | exact HB.out | apply below_alloc | apply pw_below_drewN | apply below_drew1) | exact HB.out)⟩
/-- THE ONE PURE STATEMENT of gamplaw07_PairEven: yours. -/
def gamplaw07_PairEven.Pure : Prop := ∀ (a0 : Int) (l1 : List Int), (Lit.int .u8 a0).wf = true → l1.length ≤ maxLen → l1.length * 2 ≤ 140737488351232 → (∀ x ∈ l1, (Lit.int .u16 x).wf = true) → ∃ k, gamplaw07_PairEven.f k a0 l1 = some true
theorem gamplaw07_PairEven.walk (P : gamplaw07_PairEven.Pure) (a0 : Int) (a1 : Option Addr) (len1 cap1 : Nat) (z1 : List Int) (w : World) (w0 : (Lit.int .u8 a0).wf = true) (w1 : (a1 = none ∧ len1 = 0 ∧ cap1 = 0 ∧ z1 = []) ∨ ∃ x, a1 = some x ∧ len1 ≤ cap1 ∧ cap1 ≤ maxLen ∧ z1.length = cap1 ∧ (∀ i, i < z1.length → w.cell? (x.add i) = some (.int .u16 (z1.getD i 0))) ∧ ∀ n ∈ z1, (Lit.int .u16 n).wf = true) (y1 : len1 * 2 ≤ 140737488351232) :
    Calls Try.prog 11 #[.int .u8 a0, .slice a1 len1 cap1] w fun e w' => e = .returned (.bool true) ∧ Below w.heap.size w w' := by
  obtain ⟨l1, rfl, hr1, hm1, hw1, hc1⟩ := ReadsInt.ofRowC w1
  obtain ⟨k, h⟩ := P a0 l1 w0 hm1 y1 hw1
  refine (gamplaw07_PairEven.calls k a0 _ _ l1 true w (Kd.C_of_reads (d := (0 : Int)) (h1 := fun _ => rfl) hr1) hc1 h).mono ?_
  rintro e w' ⟨rfl, hd⟩
  exact ⟨rfl, hd⟩
end Go.Proofs.Ytilabipmgcpnjaa.Fn

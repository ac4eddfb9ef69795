/- The declarations of Fnx14 that the claim Qb needs. -/
import Derived.Test.YtilabipmgcpnjaaQbFnx0
import Derived.Test.YtilabipmgcpnjaaQbFnx3
import Derived.Test.YtilabipmgcpnjaaQbFnx5
import Derived.Test.YtilabipmgcpnjaaQbFnx7
namespace Go.Proofs.Ytilabipmgcpnjaa.Fn
open Go.RowKit Go.Proofs.Ytilabipmgcpnjaa.Own Go.Proofs.YtilabipmgcpnjaaW.PrintWords Go.Proofs.YtilabipmgcpnjaaW.PrintLast Go.Proofs.YtilabipmgcpnjaaW.PrintMore
attribute [local go_sem] max2_int min2_int max_two min_two max_three min_three max_four min_four
set_option linter.unusedVariables false
set_option linter.unusedSimpArgs false
mutual
def gamplaw07_PairSides.l0 : Nat → List (List Int) → Int → List (List Int) → Int → Option (Bool)
  | 0, _, _, _, _ => none
  | k + 1, x5, x6, x7, x8 => if x8 < (x5.length : Int) then (gamplaw07_PairSides.l1 k x5 x6 x7 x8 (([] : List Int)) (([] : List Int)) 0) else ((pair_Match.f k x7).bind fun bt548 => (if bt548.2 = 0 then ((gampref07_Matching.f k (x7.length : Int) bt548.1).bind fun t552 => (if t552 = true then ((gamplaw07_lives.f k).bind fun t553 => (gamplaw07_PairSides.j2 k x6 x7 bt548.1 (!t553))) else (gamplaw07_PairSides.j2 k x6 x7 bt548.1 true))) else (gamplaw07_PairSides.j2 k x6 x7 bt548.1 true)))
def gamplaw07_PairSides.l1 : Nat → List (List Int) → Int → List (List Int) → Int → List Int → List Int → Int → Option (Bool)
  | 0, _, _, _, _, _, _, _ => none
  | k + 1, x5, x6, x7, x8, x9, x10, x11 => if 0 ≤ x8 then (if x8 < (x5.length : Int) then (if x11 < ((rd_L1 x5 x8).length : Int) then (if 0 ≤ x11 then (if ((decide ((rd (rd_L1 x5 x8) x11) < x6)) != (decide (x8 < x6))) = true then (if x9.length < 17592186044416 then (gamplaw07_PairSides.l1 k x5 x6 x7 x8 (x9 ++ [rd (rd_L1 x5 x8) x11]) x10 (wrap64 (x11 + 1))) else (none)) else (if x10.length < 17592186044416 then (gamplaw07_PairSides.l1 k x5 x6 x7 x8 x9 (x10 ++ [rd (rd_L1 x5 x8) x11]) (wrap64 (x11 + 1))) else (none))) else (none)) else (if x9.length + x10.length < 17592186044416 then (if x7.length < 5864062014805 then (gamplaw07_PairSides.l0 k x5 x6 (x7 ++ [(x9 ++ x10)]) (wrap64 (x8 + 1))) else (none)) else (none))) else (none)) else (none)
def gamplaw07_PairSides.j2 : Nat → Int → List (List Int) → List Int → Bool → Option (Bool)
  | 0, _, _, _, _ => none
  | k + 1, x6, x7, x12, x103 => if x103 = true then (some false) else (gamplaw07_PairSides.l2 k x6 x7 x12 0)
def gamplaw07_PairSides.l2 : Nat → Int → List (List Int) → List Int → Int → Option (Bool)
  | 0, _, _, _, _ => none
  | k + 1, x6, x7, x12, x14 => if x14 < (x7.length : Int) then (if 0 ≤ x14 then (if x14 < (x12.length : Int) then (if (rd x12 x14) < 0 then (some false) else (if ((decide ((rd x12 x14) < x6)) == (decide (x14 < x6))) = true then (some false) else (gamplaw07_PairSides.l2 k x6 x7 x12 (wrap64 (x14 + 1))))) else (none)) else (none)) else ((gampref07_Blocks.f k x7 x12).bind fun bt556 => ((pair_Odd.f k x7).bind fun bt559 => (if bt556.2.2 = true then (some false) else (if (bt559.1.length : Int) = 0 then (some (bt559.2 == 0)) else (some false)))))
end
def gamplaw07_PairSides.f (k : Nat) (a0 : Int) (l1 : List Int) : Option (Bool) := (gamplaw07_made.f k (((2 * (Int.tmod a0 5)) % 256) + 1) l1 10).bind fun t517 => (gamplaw07_PairSides.l0 k t517 (wrap64 ((t517.length : Int) / 2)) (([] : List (List Int))) 0)
set_option maxHeartbeats 8000000 in
set_option maxRecDepth 100000 in
theorem gamplaw07_PairSides.calls (k : Nat) (a0 : Int) (A1 : Option Addr) (c1 : Nat) (l1 : List Int) (r : Bool) (w : World) (hr1 : Kd.C (Kd.int .u16) w A1 l1.length l1) (hc1 : l1.length ≤ c1) (h : gamplaw07_PairSides.f k a0 l1 = some r) :
    Calls Try.prog 7 #[.int .u8 a0, .slice A1 l1.length c1] w fun e w' => e = .returned (.bool r) ∧ Below w.heap.size w w' := by
  have HR1 := Aside0.mk hr1
  have HC1 := Aside0.mk hc1
  clear hr1 hc1
  have HB := Aside0.mk (Below.refl w.heap.size w)
  have H : ((gamplaw07_made.f k (((2 * (Int.tmod a0 5)) % 256) + 1) l1 10).bind fun t517 => (gamplaw07_PairSides.l0 k t517 (wrap64 ((t517.length : Int) / 2)) (([] : List (List Int))) 0)) = some r := h
  clear h
  replace H := Option.bind_eq_some_iff.mp H
  obtain ⟨t517, A30, H⟩ := H
  replace H : (gamplaw07_PairSides.l0 k t517 (wrap64 ((t517.length : Int) / 2)) (([] : List (List Int))) 0) = some r := H
  have A3 := Aside0.mk A30
  clear A30
  obtain ⟨y520, hy520⟩ : ∃ y_ : List (List Int), y_ = (([] : List (List Int))) := ⟨_, rfl⟩
  replace H : (gamplaw07_PairSides.l0 k t517 (wrap64 ((t517.length : Int) / 2)) y520 0) = some r := by first | (rw [hy520]; with_reducible exact H) | (have H2_ := (Option.bind_some _ _).symm.trans H; rw [hy520]; with_reducible exact H2_) | (have H2_ := (Option.bind_some _ _).symm.trans H; with_reducible exact H2_) | with_reducible exact H | (rw [hy520]; exact H) | exact H
  have Ny520 := Aside0.mk hy520
  clear hy520
  have H' := Aside0.mk H
  clear H
  go_enter Try.func7, Try.ntmps7
  go_wp2_with (first | ((with_reducible refine gate_callee (f := 20) rfl ?_); refine goesL_ (some 25) rfl rfl Try.func20 (by kernel_rfl) rfl #[.int .u8 (((2 * (Int.tmod a0 5)) % 256) + 1), .slice A1 l1.length c1, .int .i64 10] rfl (by (try simp only [List.map_toArray, List.map_cons, List.map_nil]); first | done | rfl | (simp only [List.length_drop, List.length_take]; rfl)) ?_; (with_reducible refine (gamplaw07_made.calls k (((2 * (Int.tmod a0 5)) % 256) + 1) _ _ l1 10 t517 _ ?side1 ?side2 A3.out).mono ?_); (case side1 => repeat (first | exact HR1.out | (with_reducible refine Kd.C_alloc ?_ _) | (with_reducible refine Kd.C_drewN ?_ _) | (with_reducible refine Kd.C_drew ?_))); (case side2 => exact HC1.out); rintro e w4 ⟨v518, rfl, ho0, hb⟩; refine ⟨_, rfl, ?_⟩; have n0_ := Aside0.mk (Kd.S_lower ho0 (below_size (by repeat (first | (with_reducible first | exact HB.out | apply below_alloc | apply pw_below_drewN | apply below_drew1) | exact HB.out)))); have n1_ := Aside0.mk (below_step (by repeat (first | (with_reducible first | exact HB.out | apply below_alloc | apply pw_below_drewN | apply below_drew1) | exact HB.out)) hb); clear HB; have HO519 := n0_; have HB := n1_; clear n0_ n1_; (try clear hb); (try clear hb2); (try clear hk); (try clear hi); (try clear ho0); obtain ⟨Ao5, co5, eo5⟩ := Kd.S_slice HO519.out; subst eo5) | ((with_reducible refine gate_dst (N := 29) rfl ?_); (try (refine gate_guard (by rfl) ?_; dsimp only)); refine Kd.S_lit (Kd.slice 3 (Kd.int .i64)) _ 24 ?hg (N := 29) ?hd (xs := ([] : List (List Int))) (inner := []) (ok := fun _ => True) (okp := fun _ => True) ?hr ?hp (fun _ hk => hk) trivial (Below.refl _ _) (Nat.le_refl _) (by simp) ?_; (case hd => rfl); (case hg => rfl); (case hr => first | (go_simp; done) | (go_simp; rfl)); (case hp => exact (Reps.none _ _)); intro v521 w6 ho7 hb hg_ hnew_; clear hg_ hnew_; (first | rw [← Ny520.out] at ho7 | (simp only [Int.reduceToNat] at ho7; rw [← Ny520.out] at ho7)); have n0_ := Aside0.mk (Kd.S_elder' (by (with_reducible repeat (first | apply Kd.S_alloc | apply Kd.S_drewN | apply Kd.S_drew)); exact HO519.out) (Kd.S_base ho7) hb); have n1_ := Aside0.mk (Kd.S_lower (Kd.S_new' ho7 (Kd.S_lt (by (with_reducible repeat (first | apply Kd.S_alloc | apply Kd.S_drewN | apply Kd.S_drew)); exact HO519.out))) (below_size (by repeat (first | (with_reducible first | exact HB.out | apply below_alloc | apply pw_below_drewN | apply below_drew1) | exact HB.out)))); have n2_ := Aside0.mk (below_step (by repeat (first | (with_reducible first | exact HB.out | apply below_alloc | apply pw_below_drewN | apply below_drew1) | exact HB.out)) hb); clear HO519; clear HB; have HO519 := n0_; have HO522 := n1_; have HB := n2_; clear n0_ n1_ n2_; clear hb ho7))
  go_loopg [7, 8] k (fun kq v7 v8 w' => ∃ (x7_1 : List (List Int)) (x8_1 : Int), v8 = .int .i64 x8_1 ∧ Aside0 (gamplaw07_PairSides.l0 kq t517 (wrap64 ((t517.length : Int) / 2)) x7_1 x8_1 = some r) ∧ Aside0 (kq ≤ k) ∧ Aside0 (Kd.S (Kd.slice 3 (Kd.int .i64)) 24 w' w.heap.size (fun k_ => some k_ ≠ (v7 : Value).ownBlock) (.slice Ao5 t517.length co5) t517) ∧ Aside0 (Kd.S (Kd.slice 3 (Kd.int .i64)) 24 w' w.heap.size (fun k_ => some k_ ≠ ((.slice Ao5 t517.length co5) : Value).ownBlock) v7 x7_1) ∧ Aside0 (Below w.heap.size w w'))
  case atStart => exact ⟨(y520), (0), (by first | rfl | (simp; done) | (simp [*]; done)), H', ⟨Nat.le_refl _⟩, ⟨by (with_reducible repeat (first | apply Kd.S_alloc | apply Kd.S_drewN | apply Kd.S_drew)); exact Kd.S_mono HO519.out (fun _ hk => hk.2)⟩, ⟨by (with_reducible repeat (first | apply Kd.S_alloc | apply Kd.S_drewN | apply Kd.S_drew)); exact Kd.S_mono HO522.out (fun _ hk => hk.2)⟩, ⟨by repeat (first | (with_reducible first | exact HB.out | apply below_alloc | apply pw_below_drewN | apply below_drew1) | exact HB.out)⟩⟩
  case round =>
    clear H'
    try clear c1
    try clear c2
    try clear p2
    try clear p6
    try clear c7
    obtain ⟨x7_1, x8_1, rfl, HA, HK1, HO_5, HO_7, HB⟩ := hrel
    cases gk with
    | zero => exact absurd HA.out (by simp [gamplaw07_PairSides.l0])
    | succ k1 =>
      have H := HA.out
      clear HA
      simp only [gamplaw07_PairSides.l0] at H
      by_cases c8 : x8_1 < (t517.length : Int)
      · rw [if_pos c8] at H
        have c8b0 : decide (x8_1 < (t517.length : Int)) = true := decide_eq_true c8
        clear c8
        obtain ⟨y523, hy523⟩ : ∃ y_ : List Int, y_ = (([] : List Int)) := ⟨_, rfl⟩
        replace H : (gamplaw07_PairSides.l1 k1 t517 (wrap64 ((t517.length : Int) / 2)) x7_1 x8_1 y523 (([] : List Int)) 0) = some r := by first | (rw [hy523]; with_reducible exact H) | (have H2_ := (Option.bind_some _ _).symm.trans H; rw [hy523]; with_reducible exact H2_) | (have H2_ := (Option.bind_some _ _).symm.trans H; with_reducible exact H2_) | with_reducible exact H | (rw [hy523]; exact H) | exact H
        have Ny523 := Aside0.mk hy523
        clear hy523
        obtain ⟨y526, hy526⟩ : ∃ y_ : List Int, y_ = (([] : List Int)) := ⟨_, rfl⟩
        replace H : (gamplaw07_PairSides.l1 k1 t517 (wrap64 ((t517.length : Int) / 2)) x7_1 x8_1 y523 y526 0) = some r := by first | (rw [hy526]; with_reducible exact H) | (have H2_ := (Option.bind_some _ _).symm.trans H; rw [hy526]; with_reducible exact H2_) | (have H2_ := (Option.bind_some _ _).symm.trans H; with_reducible exact H2_) | with_reducible exact H | (rw [hy526]; exact H) | exact H
        have Ny526 := Aside0.mk hy526
        clear hy526
        have H' := Aside0.mk H
        clear H
        go_wp2_with (first | ((with_reducible refine gate_dst (N := 36) rfl ?_); (try (refine gate_guard (by rfl) ?_; dsimp only)); refine Kd.R_lit (Kd.int .i64) _ 3 ?hg (N := 36) ?hd (xs := ([] : List Int)) (inner := []) (ok := fun _ => True) (okp := fun _ => True) ?hr ?hp (fun _ hk => hk) trivial (Below.refl _ _) (Nat.le_refl _) (by simp) ?_; (case hd => rfl); (case hg => rfl); (case hr => first | (go_simp; done) | (go_simp; rfl)); (case hp => exact (Reps.none _ _)); intro v524 w9 ho10 hb hg_ hnew_; clear hg_ hnew_; (first | rw [← Ny523.out] at ho10 | (simp only [Int.reduceToNat] at ho10; rw [← Ny523.out] at ho10)); have n0_ := Aside0.mk (Kd.S_elder' (by (with_reducible repeat (first | apply Kd.S_alloc | apply Kd.S_drewN | apply Kd.S_drew)); exact HO_5.out) (Kd.R_base ho10) hb); have n1_ := Aside0.mk (Kd.S_elder' (by (with_reducible repeat (first | apply Kd.S_alloc | apply Kd.S_drewN | apply Kd.S_drew)); exact HO_7.out) (Kd.R_base ho10) hb); have n2_ := Aside0.mk (Kd.R_lower ho10 (below_size (by repeat (first | (with_reducible first | exact HB.out | apply below_alloc | apply pw_below_drewN | apply below_drew1) | exact HB.out)))); have n3_ := Aside0.mk (below_step (by repeat (first | (with_reducible first | exact HB.out | apply below_alloc | apply pw_below_drewN | apply below_drew1) | exact HB.out)) hb); clear HO_5; clear HO_7; clear HB; have HO_5 := n0_; have HO_7 := n1_; have HO525 := n2_; have HB := n3_; clear n0_ n1_ n2_ n3_; clear hb ho10) | ((with_reducible refine gate_dst (N := 37) rfl ?_); (try (refine gate_guard (by rfl) ?_; dsimp only)); refine Kd.R_lit (Kd.int .i64) _ 3 ?hg (N := 37) ?hd (xs := ([] : List Int)) (inner := []) (ok := fun _ => True) (okp := fun _ => True) ?hr ?hp (fun _ hk => hk) trivial (Below.refl _ _) (Nat.le_refl _) (by simp) ?_; (case hd => rfl); (case hg => rfl); (case hr => first | (go_simp; done) | (go_simp; rfl)); (case hp => exact (Reps.none _ _)); intro v527 w11 ho12 hb hg_ hnew_; clear hg_ hnew_; (first | rw [← Ny526.out] at ho12 | (simp only [Int.reduceToNat] at ho12; rw [← Ny526.out] at ho12)); have n0_ := Aside0.mk (Kd.S_elder' (by (with_reducible repeat (first | apply Kd.S_alloc | apply Kd.S_drewN | apply Kd.S_drew)); exact HO_5.out) (Kd.R_base ho12) hb); have n1_ := Aside0.mk (Kd.S_elder' (by (with_reducible repeat (first | apply Kd.S_alloc | apply Kd.S_drewN | apply Kd.S_drew)); exact HO_7.out) (Kd.R_base ho12) hb); have n2_ := Aside0.mk (Kd.R_elder' (by (with_reducible repeat (first | apply Kd.R_alloc | apply Kd.R_drewN | apply Kd.R_drew)); exact HO525.out) (Kd.R_base ho12) hb); have n3_ := Aside0.mk (Kd.R_lower (Kd.R_new' ho12 (Kd.R_lt (by (with_reducible repeat (first | apply Kd.R_alloc | apply Kd.R_drewN | apply Kd.R_drew)); exact HO525.out))) (below_size (by repeat (first | (with_reducible first | exact HB.out | apply below_alloc | apply pw_below_drewN | apply below_drew1) | exact HB.out)))); have n4_ := Aside0.mk (below_step (by repeat (first | (with_reducible first | exact HB.out | apply below_alloc | apply pw_below_drewN | apply below_drew1) | exact HB.out)) hb); clear HO_5; clear HO_7; clear HO525; clear HB; have HO_5 := n0_; have HO_7 := n1_; have HO525 := n2_; have HO528 := n3_; have HB := n4_; clear n0_ n1_ n2_ n3_ n4_; clear hb ho12))
        go_loopg [9, 10, 11] k1 (fun kq v9 v10 v11 w' => ∃ (x9_2 : List Int) (x10_2 : List Int) (x11_2 : Int), v11 = .int .i64 x11_2 ∧ Aside0 (gamplaw07_PairSides.l1 kq t517 (wrap64 ((t517.length : Int) / 2)) x7_1 x8_1 x9_2 x10_2 x11_2 = some r) ∧ Aside0 (kq ≤ k1) ∧ Aside0 (Kd.S (Kd.slice 3 (Kd.int .i64)) 24 w' w.heap.size (fun k_ => some k_ ≠ (u7 : Value).ownBlock ∧ some k_ ≠ (v9 : Value).ownBlock ∧ some k_ ≠ (v10 : Value).ownBlock) (.slice Ao5 t517.length co5) t517) ∧ Aside0 (Kd.S (Kd.slice 3 (Kd.int .i64)) 24 w' w.heap.size (fun k_ => some k_ ≠ ((.slice Ao5 t517.length co5) : Value).ownBlock ∧ some k_ ≠ (v9 : Value).ownBlock ∧ some k_ ≠ (v10 : Value).ownBlock) u7 x7_1) ∧ Aside0 (Kd.R (Kd.int .i64) 3 w' w.heap.size (fun k_ => some k_ ≠ (v10 : Value).ownBlock) v9 x9_2) ∧ Aside0 (Kd.R (Kd.int .i64) 3 w' w.heap.size (fun k_ => some k_ ≠ (v9 : Value).ownBlock) v10 x10_2) ∧ Aside0 (Below w.heap.size w w'))
        case atStart => exact ⟨(y523), (y526), (0), (by first | rfl | (simp; done) | (simp [*]; done)), H', ⟨Nat.le_refl _⟩, ⟨by (with_reducible repeat (first | apply Kd.S_alloc | apply Kd.S_drewN | apply Kd.S_drew)); exact Kd.S_mono HO_5.out (fun _ hk => ⟨hk.1.1, ⟨hk.1.2, hk.2⟩⟩)⟩, ⟨by (with_reducible repeat (first | apply Kd.S_alloc | apply Kd.S_drewN | apply Kd.S_drew)); exact Kd.S_mono HO_7.out (fun _ hk => ⟨hk.1.1, ⟨hk.1.2, hk.2⟩⟩)⟩, ⟨by (with_reducible repeat (first | apply Kd.R_alloc | apply Kd.R_drewN | apply Kd.R_drew)); exact Kd.R_mono HO525.out (fun _ hk => hk.2)⟩, ⟨by (with_reducible repeat (first | apply Kd.R_alloc | apply Kd.R_drewN | apply Kd.R_drew)); exact Kd.R_mono HO528.out (fun _ hk => hk.2)⟩, ⟨by repeat (first | (with_reducible first | exact HB.out | apply below_alloc | apply pw_below_drewN | apply below_drew1) | exact HB.out)⟩⟩
        case round =>
          clear H'
          try clear c1
          try clear c2
          try clear p2
          try clear p6
          try clear c7
          try clear c8
          try clear c8b0
          try clear p2
          try clear p6
          obtain ⟨x9_2, x10_2, x11_2, rfl, HA, HK2, HO_5, HO_7, HO_9, HO_10, HB⟩ := hrel
          cases gk with
          | zero => exact absurd HA.out (by simp [gamplaw07_PairSides.l1])
          | succ k2 =>
            have H := HA.out
            clear HA
            simp only [gamplaw07_PairSides.l1] at H
            by_cases c13 : 0 ≤ x8_1
            · rw [if_pos c13] at H
              have c13b0 : decide (0 ≤ x8_1) = true := decide_eq_true c13
              clear c13
              by_cases c14 : x8_1 < (t517.length : Int)
              · rw [if_pos c14] at H
                have c14b0 : decide (x8_1 < (t517.length : Int)) = true := decide_eq_true c14
                clear c14
                by_cases c15 : x11_2 < ((rd_L1 t517 x8_1).length : Int)
                · rw [if_pos c15] at H
                  have c15b0 : decide (x11_2 < ((rd_L1 t517 x8_1).length : Int)) = true := decide_eq_true c15
                  clear c15
                  by_cases c16 : 0 ≤ x11_2
                  · rw [if_pos c16] at H
                    have c16b0 : decide (0 ≤ x11_2) = true := decide_eq_true c16
                    clear c16
                    by_cases c17 : ((decide ((rd (rd_L1 t517 x8_1) x11_2) < (wrap64 ((t517.length : Int) / 2)))) != (decide (x8_1 < (wrap64 ((t517.length : Int) / 2))))) = true
                    · rw [if_pos c17] at H
                      have c17b0 : ((decide ((rd (rd_L1 t517 x8_1) x11_2) < (wrap64 ((t517.length : Int) / 2)))) != (decide (x8_1 < (wrap64 ((t517.length : Int) / 2))))) = true := c17
                      (try (have c17b1 : decide ((decide ((rd (rd_L1 t517 x8_1) x11_2) < (wrap64 ((t517.length : Int) / 2)))) = (decide (x8_1 < (wrap64 ((t517.length : Int) / 2))))) = false := by simpa using c17))
                      (try (have c17b2 : ((decide ((rd (rd_L1 t517 x8_1) x11_2) < (wrap64 ((t517.length : Int) / 2)))) == (decide (x8_1 < (wrap64 ((t517.length : Int) / 2))))) = false := by simpa using c17))
                      (try (have c17b3 : ¬ ((decide ((rd (rd_L1 t517 x8_1) x11_2) < (wrap64 ((t517.length : Int) / 2)))) = (decide (x8_1 < (wrap64 ((t517.length : Int) / 2))))) := by simpa using c17))
                      clear c17
                      by_cases c18 : x9_2.length < 17592186044416
                      · rw [if_pos c18] at H
                        have LMc18 := Aside0.mk c18
                        clear c18
                        obtain ⟨y534, hy534⟩ : ∃ y_ : List Int, y_ = (x9_2 ++ [rd (rd_L1 t517 x8_1) x11_2]) := ⟨_, rfl⟩
                        replace H : (gamplaw07_PairSides.l1 k2 t517 (wrap64 ((t517.length : Int) / 2)) x7_1 x8_1 y534 x10_2 (wrap64 (x11_2 + 1))) = some r := by first | (rw [hy534]; with_reducible exact H) | (have H2_ := (Option.bind_some _ _).symm.trans H; rw [hy534]; with_reducible exact H2_) | (have H2_ := (Option.bind_some _ _).symm.trans H; with_reducible exact H2_) | with_reducible exact H | (rw [hy534]; exact H) | exact H
                        have Ny534 := Aside0.mk hy534
                        clear hy534
                        have H' := Aside0.mk H
                        clear H
                        have p529 : 0 ≤ (x8_1 : Int) := of_decide_eq_true (by first | (with_reducible assumption) | assumption)
                        have q529 : x8_1 < (t517.length : Int) := of_decide_eq_true (by first | (with_reducible assumption) | assumption)
                        obtain ⟨ad529, A529_0, c529_0, e529, hx529_0, hl529_0, hi529_0⟩ := at_L1 (Kd.S_reads' HO_5.out).2.2 x8_1 p529 q529
                        cases e529
                        obtain ⟨ce529, hce529, hMe529, hcc529⟩ := Kd.S_get HO_5.out [] x8_1 p529 (by first | exact q529 | exact of_decide_eq_true (by first | (with_reducible assumption) | assumption) | (have e_ := (Kd.S_reads' HO_5.out).1; omega))
                        obtain ⟨ve529_0, rfl, ge529_0⟩ := hMe529
                        have hv529_0 := hcc529 0 _ rfl
                        rw [Nat.add_zero, show ((Kd.slice 3 (Kd.int .i64))).sz = 1 from rfl, Nat.mul_one] at hv529_0
                        replace hv529_0 := Option.some.inj (hv529_0.symm.trans hx529_0)
                        rw [hv529_0] at ge529_0
                        have HL529_0 := Aside0.mk (show Kd.R (Kd.int .i64) 3 _ _ _ _ (rd_L1 t517 x8_1) from ge529_0)
                        clear hv529_0 ge529_0
                        clear hcc529 hce529
                        have HR529_0 := Aside0.mk hi529_0
                        have HC529_0 := Aside0.mk hl529_0
                        clear hi529_0 hl529_0
                        replace p529 := eq_true p529
                        replace q529 := eq_true q529
                        have p530 : 0 ≤ (x8_1 : Int) := of_decide_eq_true (by first | (with_reducible assumption) | assumption)
                        have q530 : x8_1 < (t517.length : Int) := of_decide_eq_true (by first | (with_reducible assumption) | assumption)
                        obtain ⟨ad530, A530_0, c530_0, e530, hx530_0, hl530_0, hi530_0⟩ := at_L1 (Kd.S_reads' HO_5.out).2.2 x8_1 p530 q530
                        obtain rfl : ad529 = ad530 := (by injection e530)
                        obtain ⟨ce530, hce530, hMe530, hcc530⟩ := Kd.S_get HO_5.out [] x8_1 p530 (by first | exact q530 | exact of_decide_eq_true (by first | (with_reducible assumption) | assumption) | (have e_ := (Kd.S_reads' HO_5.out).1; omega))
                        obtain ⟨ve530_0, rfl, ge530_0⟩ := hMe530
                        have hv530_0 := hcc530 0 _ rfl
                        rw [Nat.add_zero, show ((Kd.slice 3 (Kd.int .i64))).sz = 1 from rfl, Nat.mul_one] at hv530_0
                        replace hv530_0 := Option.some.inj (hv530_0.symm.trans hx530_0)
                        rw [hv530_0] at ge530_0
                        have HL530_0 := Aside0.mk (show Kd.R (Kd.int .i64) 3 _ _ _ _ (rd_L1 t517 x8_1) from ge530_0)
                        clear hv530_0 ge530_0
                        clear hcc530 hce530
                        have HR530_0 := Aside0.mk hi530_0
                        have HC530_0 := Aside0.mk hl530_0
                        clear hi530_0 hl530_0
                        replace p530 := eq_true p530
                        replace q530 := eq_true q530
                        have ea_ := Option.some.inj (hx529_0.symm.trans hx530_0)
                        injection ea_ with ea_ en_ ec_
                        subst ea_
                        subst ec_
                        clear en_
                        have p531 : 0 ≤ (x11_2 : Int) := of_decide_eq_true (by first | (with_reducible assumption) | assumption)
                        have q531 : x11_2 < ((rd_L1 t517 x8_1).length : Int) := of_decide_eq_true (by first | (with_reducible assumption) | assumption)
                        obtain ⟨ad531, e531, hx531_0⟩ := Kd.at_int (by repeat (first | (with_reducible exact HR530_0.out) | (with_reducible refine Kd.C_alloc ?_ _) | (with_reducible refine Kd.C_drewN ?_ _) | (with_reducible refine Kd.C_drew ?_) | exact HR530_0.out)) x11_2 p531 q531
                        cases e531
                        replace p531 := eq_true p531
                        replace q531 := eq_true q531
                        have p532 : 0 ≤ (x8_1 : Int) := of_decide_eq_true (by first | (with_reducible assumption) | assumption)
                        have q532 : x8_1 < (t517.length : Int) := of_decide_eq_true (by first | (with_reducible assumption) | assumption)
                        obtain ⟨ad532, A532_0, c532_0, e532, hx532_0, hl532_0, hi532_0⟩ := at_L1 (Kd.S_reads' HO_5.out).2.2 x8_1 p532 q532
                        obtain rfl : ad529 = ad532 := (by injection e532)
                        obtain ⟨ce532, hce532, hMe532, hcc532⟩ := Kd.S_get HO_5.out [] x8_1 p532 (by first | exact q532 | exact of_decide_eq_true (by first | (with_reducible assumption) | assumption) | (have e_ := (Kd.S_reads' HO_5.out).1; omega))
                        obtain ⟨ve532_0, rfl, ge532_0⟩ := hMe532
                        have hv532_0 := hcc532 0 _ rfl
                        rw [Nat.add_zero, show ((Kd.slice 3 (Kd.int .i64))).sz = 1 from rfl, Nat.mul_one] at hv532_0
                        replace hv532_0 := Option.some.inj (hv532_0.symm.trans hx532_0)
                        rw [hv532_0] at ge532_0
                        have HL532_0 := Aside0.mk (show Kd.R (Kd.int .i64) 3 _ _ _ _ (rd_L1 t517 x8_1) from ge532_0)
                        clear hv532_0 ge532_0
                        clear hcc532 hce532
                        have HR532_0 := Aside0.mk hi532_0
                        have HC532_0 := Aside0.mk hl532_0
                        clear hi532_0 hl532_0
                        replace p532 := eq_true p532
                        replace q532 := eq_true q532
                        have ea_ := Option.some.inj (hx529_0.symm.trans hx532_0)
                        injection ea_ with ea_ en_ ec_
                        subst ea_
                        subst ec_
                        clear en_
                        have p533 : 0 ≤ (x11_2 : Int) := of_decide_eq_true (by first | (with_reducible assumption) | assumption)
                        have q533 : x11_2 < ((rd_L1 t517 x8_1).length : Int) := of_decide_eq_true (by first | (with_reducible assumption) | assumption)
                        obtain ⟨ad533, e533, hx533_0⟩ := Kd.at_int (by repeat (first | (with_reducible exact HR532_0.out) | (with_reducible refine Kd.C_alloc ?_ _) | (with_reducible refine Kd.C_drewN ?_ _) | (with_reducible refine Kd.C_drew ?_) | exact HR532_0.out)) x11_2 p533 q533
                        cases e533
                        replace p533 := eq_true p533
                        replace q533 := eq_true q533
                        go_wp2_with (first | ((with_reducible refine gate_builtin (b := .append) (xs := #[.tmp 60, .tmp 68]) rfl ?_); (try (refine gate_guard (by rfl) ?_; dsimp only)); at_builtin; refine Kd.R_append (Kd.int .i64) (w0 := w) w.heap.size rfl (.tmp 60) (.tmp 68) 24 3 (.int .i64 0) 8 rfl Try.underlying24 info3 rfl (by decide) (by omega) u9 x9_2 (rd (rd_L1 t517 x8_1) x11_2) [.int .i64 (rd (rd_L1 t517 x8_1) x11_2)] (fun k_ => some k_ ≠ (u10 : Value).ownBlock) (fun _ => False) rfl rfl ?aP (fun _ hk => hk.elim) ?aF ?aO ?aB ?aS ?aL ?_; (case aP => exact rfl); (case aB => exact (by repeat (first | (with_reducible first | exact HB.out | apply below_alloc | apply pw_below_drewN | apply below_drew1) | exact HB.out))); (case aF => exact (fun k_ hk => Kd.fresh' (Kd.R_lt (by (with_reducible repeat (first | apply Kd.R_alloc | apply Kd.R_drewN | apply Kd.R_drew)); exact HO_10.out)) k_ hk)); (case aO => exact (by (with_reducible repeat (first | apply Kd.R_alloc | apply Kd.R_drewN | apply Kd.R_drew)); exact HO_9.out)); (case aS => exact (below_size (by repeat (first | (with_reducible first | exact HB.out | apply below_alloc | apply pw_below_drewN | apply below_drew1) | exact HB.out)))); (case aL => have := LMc18.out; omega); intro v535 w19 ho hb hg hat; rw [← Ny534.out] at ho; have n0_ := Aside0.mk (Kd.S_after (ok := (fun k_ => some k_ ≠ (u7 : Value).ownBlock ∧ some k_ ≠ (u10 : Value).ownBlock)) (by (with_reducible repeat (first | apply Kd.S_alloc | apply Kd.S_drewN | apply Kd.S_drew)); exact Kd.S_mono HO_5.out (fun _ hk => ⟨⟨hk.1, hk.2.2⟩, hk.2.1⟩)) hg hat); have n1_ := Aside0.mk (Kd.S_after (ok := (fun k_ => some k_ ≠ (.slice (some ad529) t517.length co5 : Value).ownBlock ∧ some k_ ≠ (u10 : Value).ownBlock)) (by (with_reducible repeat (first | apply Kd.S_alloc | apply Kd.S_drewN | apply Kd.S_drew)); exact Kd.S_mono HO_7.out (fun _ hk => ⟨⟨hk.1, hk.2.2⟩, hk.2.1⟩)) hg hat); have n2_ := Aside0.mk (Kd.R_after (ok := (fun _ => True)) (by (with_reducible repeat (first | apply Kd.R_alloc | apply Kd.R_drewN | apply Kd.R_drew)); exact Kd.R_mono HO_10.out (fun _ hk => ⟨trivial, hk⟩)) hg hat); have n3_ := Aside0.mk (Kd.R_after (ok := (fun k_ => some k_ ≠ (.slice (some ad529) t517.length co5 : Value).ownBlock ∧ some k_ ≠ (u7 : Value).ownBlock ∧ some k_ ≠ (u10 : Value).ownBlock)) (by (with_reducible repeat (first | apply Kd.R_alloc | apply Kd.R_drewN | apply Kd.R_drew)); exact Kd.R_mono HL529_0.out (fun _ hk => ⟨⟨hk.2, ⟨hk.1.1, hk.1.2.2⟩⟩, hk.1.2.1⟩)) hg hat); have n4_ := Aside0.mk (Kd.R_after (ok := (fun k_ => some k_ ≠ (.slice (some ad529) t517.length co5 : Value).ownBlock ∧ some k_ ≠ (u7 : Value).ownBlock ∧ some k_ ≠ (u10 : Value).ownBlock)) (by (with_reducible repeat (first | apply Kd.R_alloc | apply Kd.R_drewN | apply Kd.R_drew)); exact Kd.R_mono HL530_0.out (fun _ hk => ⟨⟨hk.2, ⟨hk.1.1, hk.1.2.2⟩⟩, hk.1.2.1⟩)) hg hat); have n5_ := Aside0.mk (Kd.R_after (ok := (fun k_ => some k_ ≠ (.slice (some ad529) t517.length co5 : Value).ownBlock ∧ some k_ ≠ (u7 : Value).ownBlock ∧ some k_ ≠ (u10 : Value).ownBlock)) (by (with_reducible repeat (first | apply Kd.R_alloc | apply Kd.R_drewN | apply Kd.R_drew)); exact Kd.R_mono HL532_0.out (fun _ hk => ⟨⟨hk.2, ⟨hk.1.1, hk.1.2.2⟩⟩, hk.1.2.1⟩)) hg hat); have n6_ := Aside0.mk (hb); have n7_ := Aside0.mk (ho); clear HO_5; clear HO_7; clear HO_10; clear HL529_0; clear HL530_0; clear HL532_0; clear HB; clear HO_9; have HO_5 := n0_; have HO_7 := n1_; have HO_10 := n2_; have HL529_0 := n3_; have HL530_0 := n4_; have HL532_0 := n5_; have HB := n6_; have HO536 := n7_; clear n0_ n1_ n2_ n3_ n4_ n5_ n6_ n7_; clear ho hb hg hat))
                        go_roundg k2
                        case measure => have := HK1.out; have := HK2.out; omega
                        case rel => exact ⟨(y534), (x10_2), (wrap64 (x11_2 + 1)), (by first | rfl | (simp; done) | (simp [*]; done)), H', ⟨by have := HK1.out; have := HK2.out; omega⟩, ⟨by (with_reducible repeat (first | apply Kd.S_alloc | apply Kd.S_drewN | apply Kd.S_drew)); exact Kd.S_mono HO_5.out (fun _ hk => ⟨hk.1.1, ⟨hk.2, hk.1.2⟩⟩)⟩, ⟨by (with_reducible repeat (first | apply Kd.S_alloc | apply Kd.S_drewN | apply Kd.S_drew)); exact Kd.S_mono HO_7.out (fun _ hk => ⟨hk.1.1, ⟨hk.2, hk.1.2⟩⟩)⟩, ⟨by (with_reducible repeat (first | apply Kd.R_alloc | apply Kd.R_drewN | apply Kd.R_drew)); exact HO536.out⟩, ⟨by (with_reducible repeat (first | apply Kd.R_alloc | apply Kd.R_drewN | apply Kd.R_drew)); exact Kd.R_mono HO_10.out (fun _ hk => hk.2)⟩, ⟨by repeat (first | (with_reducible first | exact HB.out | apply below_alloc | apply pw_below_drewN | apply below_drew1) | exact HB.out)⟩⟩
                      · rw [if_neg c18] at H
                        exact absurd H (by simp)
                    · rw [if_neg c17] at H
                      have c17b0 : ((decide ((rd (rd_L1 t517 x8_1) x11_2) < (wrap64 ((t517.length : Int) / 2)))) != (decide (x8_1 < (wrap64 ((t517.length : Int) / 2))))) = false := by simpa using c17
                      (try (have c17b1 : decide ((decide ((rd (rd_L1 t517 x8_1) x11_2) < (wrap64 ((t517.length : Int) / 2)))) = (decide (x8_1 < (wrap64 ((t517.length : Int) / 2))))) = true := by simpa using c17))
                      (try (have c17b2 : ((decide ((rd (rd_L1 t517 x8_1) x11_2) < (wrap64 ((t517.length : Int) / 2)))) == (decide (x8_1 < (wrap64 ((t517.length : Int) / 2))))) = true := by simpa using c17))
                      clear c17
                      by_cases c20 : x10_2.length < 17592186044416
                      · rw [if_pos c20] at H
                        have LMc20 := Aside0.mk c20
                        clear c20
                        obtain ⟨y539, hy539⟩ : ∃ y_ : List Int, y_ = (x10_2 ++ [rd (rd_L1 t517 x8_1) x11_2]) := ⟨_, rfl⟩
                        replace H : (gamplaw07_PairSides.l1 k2 t517 (wrap64 ((t517.length : Int) / 2)) x7_1 x8_1 x9_2 y539 (wrap64 (x11_2 + 1))) = some r := by first | (rw [hy539]; with_reducible exact H) | (have H2_ := (Option.bind_some _ _).symm.trans H; rw [hy539]; with_reducible exact H2_) | (have H2_ := (Option.bind_some _ _).symm.trans H; with_reducible exact H2_) | with_reducible exact H | (rw [hy539]; exact H) | exact H
                        have Ny539 := Aside0.mk hy539
                        clear hy539
                        have H' := Aside0.mk H
                        clear H
                        have p529 : 0 ≤ (x8_1 : Int) := of_decide_eq_true (by first | (with_reducible assumption) | assumption)
                        have q529 : x8_1 < (t517.length : Int) := of_decide_eq_true (by first | (with_reducible assumption) | assumption)
                        obtain ⟨ad529, A529_0, c529_0, e529, hx529_0, hl529_0, hi529_0⟩ := at_L1 (Kd.S_reads' HO_5.out).2.2 x8_1 p529 q529
                        cases e529
                        obtain ⟨ce529, hce529, hMe529, hcc529⟩ := Kd.S_get HO_5.out [] x8_1 p529 (by first | exact q529 | exact of_decide_eq_true (by first | (with_reducible assumption) | assumption) | (have e_ := (Kd.S_reads' HO_5.out).1; omega))
                        obtain ⟨ve529_0, rfl, ge529_0⟩ := hMe529
                        have hv529_0 := hcc529 0 _ rfl
                        rw [Nat.add_zero, show ((Kd.slice 3 (Kd.int .i64))).sz = 1 from rfl, Nat.mul_one] at hv529_0
                        replace hv529_0 := Option.some.inj (hv529_0.symm.trans hx529_0)
                        rw [hv529_0] at ge529_0
                        have HL529_0 := Aside0.mk (show Kd.R (Kd.int .i64) 3 _ _ _ _ (rd_L1 t517 x8_1) from ge529_0)
                        clear hv529_0 ge529_0
                        clear hcc529 hce529
                        have HR529_0 := Aside0.mk hi529_0
                        have HC529_0 := Aside0.mk hl529_0
                        clear hi529_0 hl529_0
                        replace p529 := eq_true p529
                        replace q529 := eq_true q529
                        have p530 : 0 ≤ (x8_1 : Int) := of_decide_eq_true (by first | (with_reducible assumption) | assumption)
                        have q530 : x8_1 < (t517.length : Int) := of_decide_eq_true (by first | (with_reducible assumption) | assumption)
                        obtain ⟨ad530, A530_0, c530_0, e530, hx530_0, hl530_0, hi530_0⟩ := at_L1 (Kd.S_reads' HO_5.out).2.2 x8_1 p530 q530
                        obtain rfl : ad529 = ad530 := (by injection e530)
                        obtain ⟨ce530, hce530, hMe530, hcc530⟩ := Kd.S_get HO_5.out [] x8_1 p530 (by first | exact q530 | exact of_decide_eq_true (by first | (with_reducible assumption) | assumption) | (have e_ := (Kd.S_reads' HO_5.out).1; omega))
                        obtain ⟨ve530_0, rfl, ge530_0⟩ := hMe530
                        have hv530_0 := hcc530 0 _ rfl
                        rw [Nat.add_zero, show ((Kd.slice 3 (Kd.int .i64))).sz = 1 from rfl, Nat.mul_one] at hv530_0
                        replace hv530_0 := Option.some.inj (hv530_0.symm.trans hx530_0)
                        rw [hv530_0] at ge530_0
                        have HL530_0 := Aside0.mk (show Kd.R (Kd.int .i64) 3 _ _ _ _ (rd_L1 t517 x8_1) from ge530_0)
                        clear hv530_0 ge530_0
                        clear hcc530 hce530
                        have HR530_0 := Aside0.mk hi530_0
                        have HC530_0 := Aside0.mk hl530_0
                        clear hi530_0 hl530_0
                        replace p530 := eq_true p530
                        replace q530 := eq_true q530
                        have ea_ := Option.some.inj (hx529_0.symm.trans hx530_0)
                        injection ea_ with ea_ en_ ec_
                        subst ea_
                        subst ec_
                        clear en_
                        have p531 : 0 ≤ (x11_2 : Int) := of_decide_eq_true (by first | (with_reducible assumption) | assumption)
                        have q531 : x11_2 < ((rd_L1 t517 x8_1).length : Int) := of_decide_eq_true (by first | (with_reducible assumption) | assumption)
                        obtain ⟨ad531, e531, hx531_0⟩ := Kd.at_int (by repeat (first | (with_reducible exact HR530_0.out) | (with_reducible refine Kd.C_alloc ?_ _) | (with_reducible refine Kd.C_drewN ?_ _) | (with_reducible refine Kd.C_drew ?_) | exact HR530_0.out)) x11_2 p531 q531
                        cases e531
                        replace p531 := eq_true p531
                        replace q531 := eq_true q531
                        have p537 : 0 ≤ (x8_1 : Int) := of_decide_eq_true (by first | (with_reducible assumption) | assumption)
                        have q537 : x8_1 < (t517.length : Int) := of_decide_eq_true (by first | (with_reducible assumption) | assumption)
                        obtain ⟨ad537, A537_0, c537_0, e537, hx537_0, hl537_0, hi537_0⟩ := at_L1 (Kd.S_reads' HO_5.out).2.2 x8_1 p537 q537
                        obtain rfl : ad529 = ad537 := (by injection e537)
                        obtain ⟨ce537, hce537, hMe537, hcc537⟩ := Kd.S_get HO_5.out [] x8_1 p537 (by first | exact q537 | exact of_decide_eq_true (by first | (with_reducible assumption) | assumption) | (have e_ := (Kd.S_reads' HO_5.out).1; omega))
                        obtain ⟨ve537_0, rfl, ge537_0⟩ := hMe537
                        have hv537_0 := hcc537 0 _ rfl
                        rw [Nat.add_zero, show ((Kd.slice 3 (Kd.int .i64))).sz = 1 from rfl, Nat.mul_one] at hv537_0
                        replace hv537_0 := Option.some.inj (hv537_0.symm.trans hx537_0)
                        rw [hv537_0] at ge537_0
                        have HL537_0 := Aside0.mk (show Kd.R (Kd.int .i64) 3 _ _ _ _ (rd_L1 t517 x8_1) from ge537_0)
                        clear hv537_0 ge537_0
                        clear hcc537 hce537
                        have HR537_0 := Aside0.mk hi537_0
                        have HC537_0 := Aside0.mk hl537_0
                        clear hi537_0 hl537_0
                        replace p537 := eq_true p537
                        replace q537 := eq_true q537
                        have ea_ := Option.some.inj (hx529_0.symm.trans hx537_0)
                        injection ea_ with ea_ en_ ec_
                        subst ea_
                        subst ec_
                        clear en_
                        have p538 : 0 ≤ (x11_2 : Int) := of_decide_eq_true (by first | (with_reducible assumption) | assumption)
                        have q538 : x11_2 < ((rd_L1 t517 x8_1).length : Int) := of_decide_eq_true (by first | (with_reducible assumption) | assumption)
                        obtain ⟨ad538, e538, hx538_0⟩ := Kd.at_int (by repeat (first | (with_reducible exact HR537_0.out) | (with_reducible refine Kd.C_alloc ?_ _) | (with_reducible refine Kd.C_drewN ?_ _) | (with_reducible refine Kd.C_drew ?_) | exact HR537_0.out)) x11_2 p538 q538
                        cases e538
                        replace p538 := eq_true p538
                        replace q538 := eq_true q538
                        go_wp2_with (first | ((with_reducible refine gate_builtin (b := .append) (xs := #[.tmp 70, .tmp 78]) rfl ?_); (try (refine gate_guard (by rfl) ?_; dsimp only)); at_builtin; refine Kd.R_append (Kd.int .i64) (w0 := w) w.heap.size rfl (.tmp 70) (.tmp 78) 24 3 (.int .i64 0) 8 rfl Try.underlying24 info3 rfl (by decide) (by omega) u10 x10_2 (rd (rd_L1 t517 x8_1) x11_2) [.int .i64 (rd (rd_L1 t517 x8_1) x11_2)] (fun k_ => some k_ ≠ (u9 : Value).ownBlock) (fun _ => False) rfl rfl ?aP (fun _ hk => hk.elim) ?aF ?aO ?aB ?aS ?aL ?_; (case aP => exact rfl); (case aB => exact (by repeat (first | (with_reducible first | exact HB.out | apply below_alloc | apply pw_below_drewN | apply below_drew1) | exact HB.out))); (case aF => exact (fun k_ hk => Kd.fresh' (Kd.R_lt (by (with_reducible repeat (first | apply Kd.R_alloc | apply Kd.R_drewN | apply Kd.R_drew)); exact HO_9.out)) k_ hk)); (case aO => exact (by (with_reducible repeat (first | apply Kd.R_alloc | apply Kd.R_drewN | apply Kd.R_drew)); exact HO_10.out)); (case aS => exact (below_size (by repeat (first | (with_reducible first | exact HB.out | apply below_alloc | apply pw_below_drewN | apply below_drew1) | exact HB.out)))); (case aL => have := LMc20.out; omega); intro v540 w21 ho hb hg hat; rw [← Ny539.out] at ho; have n0_ := Aside0.mk (Kd.S_after (ok := (fun k_ => some k_ ≠ (u7 : Value).ownBlock ∧ some k_ ≠ (u9 : Value).ownBlock)) (by (with_reducible repeat (first | apply Kd.S_alloc | apply Kd.S_drewN | apply Kd.S_drew)); exact Kd.S_mono HO_5.out (fun _ hk => ⟨⟨hk.1, hk.2.1⟩, hk.2.2⟩)) hg hat); have n1_ := Aside0.mk (Kd.S_after (ok := (fun k_ => some k_ ≠ (.slice (some ad529) t517.length co5 : Value).ownBlock ∧ some k_ ≠ (u9 : Value).ownBlock)) (by (with_reducible repeat (first | apply Kd.S_alloc | apply Kd.S_drewN | apply Kd.S_drew)); exact Kd.S_mono HO_7.out (fun _ hk => ⟨⟨hk.1, hk.2.1⟩, hk.2.2⟩)) hg hat); have n2_ := Aside0.mk (Kd.R_after (ok := (fun _ => True)) (by (with_reducible repeat (first | apply Kd.R_alloc | apply Kd.R_drewN | apply Kd.R_drew)); exact Kd.R_mono HO_9.out (fun _ hk => ⟨trivial, hk⟩)) hg hat); have n3_ := Aside0.mk (Kd.R_after (ok := (fun k_ => some k_ ≠ (.slice (some ad529) t517.length co5 : Value).ownBlock ∧ some k_ ≠ (u7 : Value).ownBlock ∧ some k_ ≠ (u9 : Value).ownBlock)) (by (with_reducible repeat (first | apply Kd.R_alloc | apply Kd.R_drewN | apply Kd.R_drew)); exact Kd.R_mono HL529_0.out (fun _ hk => ⟨⟨hk.2, ⟨hk.1.1, hk.1.2.1⟩⟩, hk.1.2.2⟩)) hg hat); have n4_ := Aside0.mk (Kd.R_after (ok := (fun k_ => some k_ ≠ (.slice (some ad529) t517.length co5 : Value).ownBlock ∧ some k_ ≠ (u7 : Value).ownBlock ∧ some k_ ≠ (u9 : Value).ownBlock)) (by (with_reducible repeat (first | apply Kd.R_alloc | apply Kd.R_drewN | apply Kd.R_drew)); exact Kd.R_mono HL530_0.out (fun _ hk => ⟨⟨hk.2, ⟨hk.1.1, hk.1.2.1⟩⟩, hk.1.2.2⟩)) hg hat); have n5_ := Aside0.mk (Kd.R_after (ok := (fun k_ => some k_ ≠ (.slice (some ad529) t517.length co5 : Value).ownBlock ∧ some k_ ≠ (u7 : Value).ownBlock ∧ some k_ ≠ (u9 : Value).ownBlock)) (by (with_reducible repeat (first | apply Kd.R_alloc | apply Kd.R_drewN | apply Kd.R_drew)); exact Kd.R_mono HL537_0.out (fun _ hk => ⟨⟨hk.2, ⟨hk.1.1, hk.1.2.1⟩⟩, hk.1.2.2⟩)) hg hat); have n6_ := Aside0.mk (hb); have n7_ := Aside0.mk (ho); clear HO_5; clear HO_7; clear HO_9; clear HL529_0; clear HL530_0; clear HL537_0; clear HB; clear HO_10; have HO_5 := n0_; have HO_7 := n1_; have HO_9 := n2_; have HL529_0 := n3_; have HL530_0 := n4_; have HL537_0 := n5_; have HB := n6_; have HO541 := n7_; clear n0_ n1_ n2_ n3_ n4_ n5_ n6_ n7_; clear ho hb hg hat))
                        go_roundg k2
                        case measure => have := HK1.out; have := HK2.out; omega
                        case rel => exact ⟨(x9_2), (y539), (wrap64 (x11_2 + 1)), (by first | rfl | (simp; done) | (simp [*]; done)), H', ⟨by have := HK1.out; have := HK2.out; omega⟩, ⟨by (with_reducible repeat (first | apply Kd.S_alloc | apply Kd.S_drewN | apply Kd.S_drew)); exact Kd.S_mono HO_5.out (fun _ hk => ⟨hk.1.1, ⟨hk.1.2, hk.2⟩⟩)⟩, ⟨by (with_reducible repeat (first | apply Kd.S_alloc | apply Kd.S_drewN | apply Kd.S_drew)); exact Kd.S_mono HO_7.out (fun _ hk => ⟨hk.1.1, ⟨hk.1.2, hk.2⟩⟩)⟩, ⟨by (with_reducible repeat (first | apply Kd.R_alloc | apply Kd.R_drewN | apply Kd.R_drew)); exact Kd.R_mono HO_9.out (fun _ hk => hk.2)⟩, ⟨by (with_reducible repeat (first | apply Kd.R_alloc | apply Kd.R_drewN | apply Kd.R_drew)); exact HO541.out⟩, ⟨by repeat (first | (with_reducible first | exact HB.out | apply below_alloc | apply pw_below_drewN | apply below_drew1) | exact HB.out)⟩⟩
                      · rw [if_neg c20] at H
                        exact absurd H (by simp)
                  · rw [if_neg c16] at H
                    exact absurd H (by simp)
                · rw [if_neg c15] at H
                  have c15b0 : decide (x11_2 < ((rd_L1 t517 x8_1).length : Int)) = false := decide_eq_false c15
                  clear c15
                  by_cases c22 : x9_2.length + x10_2.length < 17592186044416
                  · rw [if_pos c22] at H
                    have LMc22 := Aside0.mk c22
                    clear c22
                    obtain ⟨y542, hy542⟩ : ∃ y_ : List Int, y_ = (x9_2 ++ x10_2) := ⟨_, rfl⟩
                    replace H : (if x7_1.length < 5864062014805 then (gamplaw07_PairSides.l0 k2 t517 (wrap64 ((t517.length : Int) / 2)) (x7_1 ++ [y542]) (wrap64 (x8_1 + 1))) else (none)) = some r := by first | (rw [hy542]; with_reducible exact H) | (have H2_ := (Option.bind_some _ _).symm.trans H; rw [hy542]; with_reducible exact H2_) | (have H2_ := (Option.bind_some _ _).symm.trans H; with_reducible exact H2_) | with_reducible exact H | (rw [hy542]; exact H) | exact H
                    have Ny542 := Aside0.mk hy542
                    clear hy542
                    by_cases c23 : x7_1.length < 5864062014805
                    · rw [if_pos c23] at H
                      have LMc23 := Aside0.mk c23
                      clear c23
                      obtain ⟨y545, hy545⟩ : ∃ y_ : List (List Int), y_ = (x7_1 ++ [y542]) := ⟨_, rfl⟩
                      replace H : (gamplaw07_PairSides.l0 k2 t517 (wrap64 ((t517.length : Int) / 2)) y545 (wrap64 (x8_1 + 1))) = some r := by first | (rw [hy545]; with_reducible exact H) | (have H2_ := (Option.bind_some _ _).symm.trans H; rw [hy545]; with_reducible exact H2_) | (have H2_ := (Option.bind_some _ _).symm.trans H; with_reducible exact H2_) | with_reducible exact H | (rw [hy545]; exact H) | exact H
                      have Ny545 := Aside0.mk hy545
                      clear hy545
                      have H' := Aside0.mk H
                      clear H
                      have p529 : 0 ≤ (x8_1 : Int) := of_decide_eq_true (by first | (with_reducible assumption) | assumption)
                      have q529 : x8_1 < (t517.length : Int) := of_decide_eq_true (by first | (with_reducible assumption) | assumption)
                      obtain ⟨ad529, A529_0, c529_0, e529, hx529_0, hl529_0, hi529_0⟩ := at_L1 (Kd.S_reads' HO_5.out).2.2 x8_1 p529 q529
                      cases e529
                      obtain ⟨ce529, hce529, hMe529, hcc529⟩ := Kd.S_get HO_5.out [] x8_1 p529 (by first | exact q529 | exact of_decide_eq_true (by first | (with_reducible assumption) | assumption) | (have e_ := (Kd.S_reads' HO_5.out).1; omega))
                      obtain ⟨ve529_0, rfl, ge529_0⟩ := hMe529
                      have hv529_0 := hcc529 0 _ rfl
                      rw [Nat.add_zero, show ((Kd.slice 3 (Kd.int .i64))).sz = 1 from rfl, Nat.mul_one] at hv529_0
                      replace hv529_0 := Option.some.inj (hv529_0.symm.trans hx529_0)
                      rw [hv529_0] at ge529_0
                      have HL529_0 := Aside0.mk (show Kd.R (Kd.int .i64) 3 _ _ _ _ (rd_L1 t517 x8_1) from ge529_0)
                      clear hv529_0 ge529_0
                      clear hcc529 hce529
                      have HR529_0 := Aside0.mk hi529_0
                      have HC529_0 := Aside0.mk hl529_0
                      clear hi529_0 hl529_0
                      replace p529 := eq_true p529
                      replace q529 := eq_true q529
                      obtain ⟨Ao25, co25, eo25⟩ := Kd.R_slice HO_10.out
                      subst eo25
                      go_wp2_with (first | ((with_reducible refine gate_builtin (b := .append) (xs := #[.tmp 81, .tmp 82]) rfl ?_); (try (refine gate_guard (by rfl) ?_; dsimp only)); at_builtin; refine Kd.R_append_rows (Kd.int .i64) (w0 := w) w.heap.size rfl (.tmp 81) (.tmp 82) 24 3 (.int .i64 0) 8 rfl Try.underlying24 info3 rfl (by decide) (by omega) u9 x9_2 x10_2 _ _ _ (fun k_ => some k_ ≠ (.slice Ao25 x10_2.length co25 : Value).ownBlock) (fun _ => False) rfl rfl ?aO ?aR (fun _ _ h => h) (fun _ h => h.elim) ?aF ?aB ?aS ?aL ?_; (case aR => repeat (first | exact (Kd.R_reads' HO_10.out).2.2 | (with_reducible refine Kd.C_alloc ?_ _) | (with_reducible refine Kd.C_drewN ?_ _) | (with_reducible refine Kd.C_drew ?_))); (case aB => exact (by repeat (first | (with_reducible first | exact HB.out | apply below_alloc | apply pw_below_drewN | apply below_drew1) | exact HB.out))); (case aF => exact (fun k_ hk => Kd.fresh' (Kd.R_lt (by (with_reducible repeat (first | apply Kd.R_alloc | apply Kd.R_drewN | apply Kd.R_drew)); exact HO_10.out)) k_ hk)); (case aO => exact (by (with_reducible repeat (first | apply Kd.R_alloc | apply Kd.R_drewN | apply Kd.R_drew)); exact HO_9.out)); (case aS => exact (below_size (by repeat (first | (with_reducible first | exact HB.out | apply below_alloc | apply pw_below_drewN | apply below_drew1) | exact HB.out)))); (case aL => have := LMc22.out; omega); intro v543 w24 ho hb hg hat; rw [← Ny542.out] at ho; have n0_ := Aside0.mk (Kd.S_after (ok := (fun k_ => some k_ ≠ (u7 : Value).ownBlock ∧ some k_ ≠ (.slice Ao25 x10_2.length co25 : Value).ownBlock)) (by (with_reducible repeat (first | apply Kd.S_alloc | apply Kd.S_drewN | apply Kd.S_drew)); exact Kd.S_mono HO_5.out (fun _ hk => ⟨⟨hk.1, hk.2.2⟩, hk.2.1⟩)) hg hat); have n1_ := Aside0.mk (Kd.S_after (ok := (fun k_ => some k_ ≠ (.slice (some ad529) t517.length co5 : Value).ownBlock ∧ some k_ ≠ (.slice Ao25 x10_2.length co25 : Value).ownBlock)) (by (with_reducible repeat (first | apply Kd.S_alloc | apply Kd.S_drewN | apply Kd.S_drew)); exact Kd.S_mono HO_7.out (fun _ hk => ⟨⟨hk.1, hk.2.2⟩, hk.2.1⟩)) hg hat); have n2_ := Aside0.mk (Kd.R_after (ok := (fun _ => True)) (by (with_reducible repeat (first | apply Kd.R_alloc | apply Kd.R_drewN | apply Kd.R_drew)); exact Kd.R_mono HO_10.out (fun _ hk => ⟨trivial, hk⟩)) hg hat); have n3_ := Aside0.mk (Kd.R_after (ok := (fun k_ => some k_ ≠ (.slice (some ad529) t517.length co5 : Value).ownBlock ∧ some k_ ≠ (u7 : Value).ownBlock ∧ some k_ ≠ (.slice Ao25 x10_2.length co25 : Value).ownBlock)) (by (with_reducible repeat (first | apply Kd.R_alloc | apply Kd.R_drewN | apply Kd.R_drew)); exact Kd.R_mono HL529_0.out (fun _ hk => ⟨⟨hk.2, ⟨hk.1.1, hk.1.2.2⟩⟩, hk.1.2.1⟩)) hg hat); have n4_ := Aside0.mk (hb); have n5_ := Aside0.mk (ho); clear HO_5; clear HO_7; clear HO_10; clear HL529_0; clear HB; clear HO_9; have HO_5 := n0_; have HO_7 := n1_; have HO_10 := n2_; have HL529_0 := n3_; have HB := n4_; have HO544 := n5_; clear n0_ n1_ n2_ n3_ n4_ n5_; clear ho hb hg hat; obtain ⟨Ao27, co27, eo27⟩ := Kd.R_slice HO544.out; subst eo27) | ((with_reducible refine gate_builtin (b := .append) (xs := #[.tmp 80, .tmp 84]) rfl ?_); (try (refine gate_guard (by rfl) ?_; dsimp only)); at_builtin; refine Kd.S_append (Kd.slice 3 (Kd.int .i64)) (w0 := w) w.heap.size rfl (.tmp 80) (.tmp 84) 22 24 (.slice none 0 0) 24 rfl Try.underlying22 info24 rfl (by decide) (by omega) u7 x7_1 y542 [.slice Ao27 y542.length co27] (fun k_ => some k_ ≠ (.slice (some ad529) t517.length co5 : Value).ownBlock ∧ some k_ ≠ (.slice Ao25 x10_2.length co25 : Value).ownBlock) (fun k_ => some k_ = (.slice Ao27 y542.length co27 : Value).ownBlock) rfl rfl ?aP (fun k_ hk_ => ((Kd.R_mono (ok' := fun k_ => ((fun k_ => some k_ ≠ (.slice (some ad529) t517.length co5 : Value).ownBlock ∧ some k_ ≠ (.slice Ao25 x10_2.length co25 : Value).ownBlock)) k_ ∧ some k_ ≠ (u7 : Value).ownBlock) (Kd.R_apart' (Kd.R_apart' (HO544.out) (Kd.S_typed HO_5.out) (by decide)) (Kd.S_typed HO_7.out) (by decide)) (fun k_ hk => ⟨⟨hk.1.2, hk.1.1⟩, hk.2⟩))).1 k_ hk_.symm) ?aF ?aO ?aB ?aS ?aL ?_; (case aP => exact Kd.M_row (Kd.R_mono (Kd.R_tight rfl (Kd.R_mono (ok' := fun k_ => ((fun k_ => some k_ ≠ (.slice (some ad529) t517.length co5 : Value).ownBlock ∧ some k_ ≠ (.slice Ao25 x10_2.length co25 : Value).ownBlock)) k_ ∧ some k_ ≠ (u7 : Value).ownBlock) (Kd.R_apart' (Kd.R_apart' (HO544.out) (Kd.S_typed HO_5.out) (by decide)) (Kd.S_typed HO_7.out) (by decide)) (fun k_ hk => ⟨⟨hk.1.2, hk.1.1⟩, hk.2⟩))) (fun _ h_ => h_))); (case aB => exact (by repeat (first | (with_reducible first | exact HB.out | apply below_alloc | apply pw_below_drewN | apply below_drew1) | exact HB.out))); (case aF => exact (fun k_ hk => ⟨Kd.fresh' (Kd.S_lt (by (with_reducible repeat (first | apply Kd.S_alloc | apply Kd.S_drewN | apply Kd.S_drew)); exact HO_5.out)) k_ hk, Kd.fresh' (Kd.R_lt (by (with_reducible repeat (first | apply Kd.R_alloc | apply Kd.R_drewN | apply Kd.R_drew)); exact HO_10.out)) k_ hk⟩)); (case aO => exact (by (with_reducible repeat (first | apply Kd.S_alloc | apply Kd.S_drewN | apply Kd.S_drew)); exact Kd.S_mono HO_7.out (fun k_ hk => ⟨⟨hk.1.1, hk.1.2⟩, fun e_ => hk.2 e_⟩))); (case aS => exact (below_size (by repeat (first | (with_reducible first | exact HB.out | apply below_alloc | apply pw_below_drewN | apply below_drew1) | exact HB.out)))); (case aL => have := LMc23.out; omega); intro v546 w26 ho hb hg hat; rw [← Ny545.out] at ho; have n0_ := Aside0.mk (Kd.S_after (ok := (fun k_ => some k_ ≠ (.slice Ao25 x10_2.length co25 : Value).ownBlock ∧ some k_ ≠ (.slice Ao27 y542.length co27 : Value).ownBlock)) (by (with_reducible repeat (first | apply Kd.S_alloc | apply Kd.S_drewN | apply Kd.S_drew)); exact Kd.S_mono HO_5.out (fun _ hk => ⟨⟨hk.1.2, hk.2⟩, hk.1.1⟩)) hg hat); have n1_ := Aside0.mk (Kd.R_over' (by (with_reducible repeat (first | apply Kd.R_alloc | apply Kd.R_drewN | apply Kd.R_drew)); exact HO_10.out) (Kd.S_typed (by (with_reducible repeat (first | apply Kd.S_alloc | apply Kd.S_drewN | apply Kd.S_drew)); exact HO_7.out)) (by decide) hg); have n2_ := Aside0.mk (Kd.R_after (ok := (fun k_ => some k_ ≠ (.slice (some ad529) t517.length co5 : Value).ownBlock ∧ some k_ ≠ (.slice Ao25 x10_2.length co25 : Value).ownBlock ∧ some k_ ≠ (.slice Ao27 y542.length co27 : Value).ownBlock)) (by (with_reducible repeat (first | apply Kd.R_alloc | apply Kd.R_drewN | apply Kd.R_drew)); exact Kd.R_mono HL529_0.out (fun _ hk => ⟨⟨hk.1.1, ⟨hk.1.2.2, hk.2⟩⟩, hk.1.2.1⟩)) hg hat); have n3_ := Aside0.mk (hb); have n4_ := Aside0.mk (ho); clear HO_5; clear HO_10; clear HL529_0; clear HB; clear HO_7; clear HO544; have HO_5 := n0_; have HO_10 := n1_; have HL529_0 := n2_; have HB := n3_; have HO547 := n4_; clear n0_ n1_ n2_ n3_ n4_; clear ho hb hg hat))
                      go_roundg k2
                      case measure => have := HK1.out; have := HK2.out; omega
                      case rel => exact ⟨(y545), (wrap64 (x8_1 + 1)), (by first | rfl | (simp; done) | (simp [*]; done)), H', ⟨by have := HK1.out; have := HK2.out; omega⟩, ⟨by (with_reducible repeat (first | apply Kd.S_alloc | apply Kd.S_drewN | apply Kd.S_drew)); exact Kd.S_mono HO_5.out (fun _ hk => hk.2)⟩, ⟨by (with_reducible repeat (first | apply Kd.S_alloc | apply Kd.S_drewN | apply Kd.S_drew)); exact Kd.S_mono HO547.out (fun _ hk => hk.1)⟩, ⟨by repeat (first | (with_reducible first | exact HB.out | apply below_alloc | apply pw_below_drewN | apply below_drew1) | exact HB.out)⟩⟩
                    · rw [if_neg c23] at H
                      exact absurd H (by simp)
                  · rw [if_neg c22] at H
                    exact absurd H (by simp)
              · rw [if_neg c14] at H
                exact absurd H (by simp)
            · rw [if_neg c13] at H
              exact absurd H (by simp)
      · rw [if_neg c8] at H
        have c8b0 : decide (x8_1 < (t517.length : Int)) = false := decide_eq_false c8
        clear c8
        replace H := Option.bind_eq_some_iff.mp H
        obtain ⟨⟨t548, t549⟩, A280, H⟩ := H
        replace H : (if t549 = 0 then ((gampref07_Matching.f k1 (x7_1.length : Int) t548).bind fun t552 => (if t552 = true then ((gamplaw07_lives.f k1).bind fun t553 => (gamplaw07_PairSides.j2 k1 (wrap64 ((t517.length : Int) / 2)) x7_1 t548 (!t553))) else (gamplaw07_PairSides.j2 k1 (wrap64 ((t517.length : Int) / 2)) x7_1 t548 true))) else (gamplaw07_PairSides.j2 k1 (wrap64 ((t517.length : Int) / 2)) x7_1 t548 true)) = some r := H
        have A28 := Aside0.mk A280
        clear A280
        have HC29 := Aside0.mk H
        clear H
        obtain ⟨Ao30, co30, eo30⟩ := Kd.S_slice HO_7.out
        subst eo30
        go_upto_region 16 with (first | ((with_reducible refine gate_callee (f := 13) rfl ?_); refine goesL_ (some 88) rfl rfl Try.func13 (by kernel_rfl) rfl #[.slice Ao30 x7_1.length co30] rfl (by (try simp only [List.map_toArray, List.map_cons, List.map_nil]); first | done | rfl | (simp only [List.length_drop, List.length_take]; rfl)) ?_; (with_reducible refine (pair_Match.calls k1 _ _ x7_1 t548 t549 _ ?side1 ?side2 A28.out).mono ?_); (case side1 => repeat (first | exact (Kd.S_reads' HO_7.out).2.2 | (with_reducible refine Kd.C_alloc ?_ _) | (with_reducible refine Kd.C_drewN ?_ _) | (with_reducible refine Kd.C_drew ?_))); (case side2 => exact (Kd.S_reads' HO_7.out).2.1); rintro e w31 ⟨v550, rfl, ho0, hb⟩; refine ⟨_, rfl, ?_⟩; have n0_ := Aside0.mk (Kd.S_elder' (by (with_reducible repeat (first | apply Kd.S_alloc | apply Kd.S_drewN | apply Kd.S_drew)); exact HO_5.out) (Kd.R_base ho0) hb); have n1_ := Aside0.mk (Kd.S_elder' (by (with_reducible repeat (first | apply Kd.S_alloc | apply Kd.S_drewN | apply Kd.S_drew)); exact HO_7.out) (Kd.R_base ho0) hb); have n2_ := Aside0.mk (Kd.R_lower ho0 (below_size (by repeat (first | (with_reducible first | exact HB.out | apply below_alloc | apply pw_below_drewN | apply below_drew1) | exact HB.out)))); have n3_ := Aside0.mk (below_step (by repeat (first | (with_reducible first | exact HB.out | apply below_alloc | apply pw_below_drewN | apply below_drew1) | exact HB.out)) hb); clear HO_5; clear HO_7; clear HB; have HO_5 := n0_; have HO_7 := n1_; have HO551 := n2_; have HB := n3_; clear n0_ n1_ n2_ n3_; (try clear hb); (try clear hb2); (try clear hk); (try clear hi); (try clear ho0)))
        (try simp only [Act.put, List.setIfInBounds_toArray, List.set_cons_zero, List.set_cons_succ])
        go_cut [103] (fun v103 wc => ∃ (kq : Nat) (x103_28 : Bool), v103 = .bool x103_28 ∧ Aside0 (gamplaw07_PairSides.j2 kq (wrap64 ((t517.length : Int) / 2)) x7_1 t548 x103_28 = some r) ∧ Aside0 (kq ≤ k1) ∧ Aside0 (Kd.S (Kd.slice 3 (Kd.int .i64)) 24 wc w.heap.size (fun k_ => some k_ ≠ (v550 : Value).ownBlock) (.slice Ao30 x7_1.length co30) x7_1) ∧ Aside0 (Kd.R (Kd.int .i64) 3 wc w.heap.size (fun _ => True) v550 t548) ∧ Aside0 (Below w.heap.size w wc))
        case first =>
          have H := HC29.out
          clear HC29
          by_cases c32 : t549 = 0
          · rw [if_pos c32] at H
            have c32b0 : (t549 == 0) = true := beq_iff_eq.mpr c32
            have c32b1 : (t549 != 0) = false := bne_eq_false_iff_eq.mpr c32
            clear c32
            (first | rw [c32b0] | (simp only [i64_w, i32_w]; rw [c32b0]) | skip)
            replace H := Option.bind_eq_some_iff.mp H
            obtain ⟨t552, A330, H⟩ := H
            replace H : (if t552 = true then ((gamplaw07_lives.f k1).bind fun t553 => (gamplaw07_PairSides.j2 k1 (wrap64 ((t517.length : Int) / 2)) x7_1 t548 (!t553))) else (gamplaw07_PairSides.j2 k1 (wrap64 ((t517.length : Int) / 2)) x7_1 t548 true)) = some r := H
            have A33 := Aside0.mk A330
            clear A330
            by_cases c34 : t552 = true
            · subst c34
              have H1 : ((gamplaw07_lives.f k1).bind fun t553 => (gamplaw07_PairSides.j2 k1 (wrap64 ((t517.length : Int) / 2)) x7_1 t548 (!t553))) = some r := by rw [if_pos rfl] at H; exact H
              clear H
              have H := H1
              clear H1
              replace H := Option.bind_eq_some_iff.mp H
              obtain ⟨t553, A350, H⟩ := H
              replace H : (gamplaw07_PairSides.j2 k1 (wrap64 ((t517.length : Int) / 2)) x7_1 t548 (!t553)) = some r := H
              have A35 := Aside0.mk A350
              clear A350
              have H' := Aside0.mk H
              clear H
              obtain ⟨Ao36, co36, eo36⟩ := Kd.R_slice HO551.out
              subst eo36
              go_wp2_with (first | (go_at_call 18; (with_reducible refine (gampref07_Matching.calls k1 (x7_1.length : Int) _ _ t548 true _ ?side1 ?side2 A33.out).mono ?_); (case side1 => repeat (first | exact (Kd.R_reads' HO551.out).2.2 | (with_reducible refine Kd.C_alloc ?_ _) | (with_reducible refine Kd.C_drewN ?_ _) | (with_reducible refine Kd.C_drew ?_))); (case side2 => exact (Kd.R_reads' HO551.out).2.1); rintro e w' ⟨rfl, ⟨nd, rfl⟩⟩) | (go_at_call 16; (with_reducible refine (gamplaw07_lives.calls k1  t553 _ A35.out).mono ?_); rintro e w37 ⟨rfl, hb⟩; have n0_ := Aside0.mk (Kd.S_below (by (with_reducible repeat (first | apply Kd.S_alloc | apply Kd.S_drewN | apply Kd.S_drew)); exact HO_5.out) hb); have n1_ := Aside0.mk (Kd.S_below (by (with_reducible repeat (first | apply Kd.S_alloc | apply Kd.S_drewN | apply Kd.S_drew)); exact HO_7.out) hb); have n2_ := Aside0.mk (Kd.R_below (by (with_reducible repeat (first | apply Kd.R_alloc | apply Kd.R_drewN | apply Kd.R_drew)); exact HO551.out) hb); have n3_ := Aside0.mk (below_step (by repeat (first | (with_reducible first | exact HB.out | apply below_alloc | apply pw_below_drewN | apply below_drew1) | exact HB.out)) hb); clear HO_5; clear HO_7; clear HO551; clear HB; have HO_5 := n0_; have HO_7 := n1_; have HO551 := n2_; have HB := n3_; clear n0_ n1_ n2_ n3_; (try clear hb); (try clear hb2); (try clear hk); (try clear hi)))
              go_meet
              case rel => exact ⟨_, (!t553), (by first | rfl | (simp; done) | (simp [*]; done)), H', ⟨by have := HK1.out; first | omega | exact Nat.le_refl _⟩, ⟨by (with_reducible repeat (first | apply Kd.S_alloc | apply Kd.S_drewN | apply Kd.S_drew)); exact Kd.S_mono HO_7.out (fun _ hk => hk.2)⟩, ⟨by (with_reducible repeat (first | apply Kd.R_alloc | apply Kd.R_drewN | apply Kd.R_drew)); exact HO551.out⟩, ⟨by repeat (first | (with_reducible first | exact HB.out | apply below_alloc | apply pw_below_drewN | apply below_drew1) | exact HB.out)⟩⟩
            · replace c34 := Bool.eq_false_iff.mpr c34
              subst c34
              have H1 : (gamplaw07_PairSides.j2 k1 (wrap64 ((t517.length : Int) / 2)) x7_1 t548 true) = some r := by rw [if_neg (show ¬ (false = true) by decide)] at H; exact H
              clear H
              have H := H1
              clear H1
              have H' := Aside0.mk H
              clear H
              obtain ⟨Ao38, co38, eo38⟩ := Kd.R_slice HO551.out
              subst eo38
              go_wp2_with (first | (go_at_call 18; (with_reducible refine (gampref07_Matching.calls k1 (x7_1.length : Int) _ _ t548 false _ ?side1 ?side2 A33.out).mono ?_); (case side1 => repeat (first | exact (Kd.R_reads' HO551.out).2.2 | (with_reducible refine Kd.C_alloc ?_ _) | (with_reducible refine Kd.C_drewN ?_ _) | (with_reducible refine Kd.C_drew ?_))); (case side2 => exact (Kd.R_reads' HO551.out).2.1); rintro e w' ⟨rfl, ⟨nd, rfl⟩⟩))
              go_meet
              case rel => exact ⟨_, (true), (by first | rfl | (simp; done) | (simp [*]; done)), H', ⟨by have := HK1.out; first | omega | exact Nat.le_refl _⟩, ⟨by (with_reducible repeat (first | apply Kd.S_alloc | apply Kd.S_drewN | apply Kd.S_drew)); exact Kd.S_mono HO_7.out (fun _ hk => hk.2)⟩, ⟨by (with_reducible repeat (first | apply Kd.R_alloc | apply Kd.R_drewN | apply Kd.R_drew)); exact HO551.out⟩, ⟨by repeat (first | (with_reducible first | exact HB.out | apply below_alloc | apply pw_below_drewN | apply below_drew1) | exact HB.out)⟩⟩
          · rw [if_neg c32] at H
            have c32b0 : (t549 == 0) = false := beq_eq_false_iff_ne.mpr c32
            have c32b1 : (t549 != 0) = true := bne_iff_ne.mpr c32
            (first | rw [c32b0] | (simp only [i64_w, i32_w]; rw [c32b0]) | skip)
            have H' := Aside0.mk H
            clear H
            go_wp2
            go_meet
            case rel => exact ⟨_, (true), (by first | rfl | (simp; done) | (simp [*]; done)), H', ⟨by have := HK1.out; first | omega | exact Nat.le_refl _⟩, ⟨by (with_reducible repeat (first | apply Kd.S_alloc | apply Kd.S_drewN | apply Kd.S_drew)); exact Kd.S_mono HO_7.out (fun _ hk => hk.2)⟩, ⟨by (with_reducible repeat (first | apply Kd.R_alloc | apply Kd.R_drewN | apply Kd.R_drew)); exact HO551.out⟩, ⟨by repeat (first | (with_reducible first | exact HB.out | apply below_alloc | apply pw_below_drewN | apply below_drew1) | exact HB.out)⟩⟩
        case rest =>
          clear HC29
          try clear c1
          try clear c2
          try clear p2
          try clear c3
          try clear c5
          try clear p5
          try clear q5
          try clear hx5
          try clear p6
          try clear c7
          try clear c8
          try clear c8b0
          try clear c13
          try clear c13b0
          try clear c14
          try clear c14b0
          try clear c15
          try clear c15b0
          try clear c16
          try clear c16b0
          try clear c17
          try clear c17b0
          try clear c17b1
          try clear c17b2
          try clear c18
          try clear c20
          try clear c22
          try clear c23
          try clear c32
          try clear c32b0
          try clear c32b1
          try clear c34
          try clear hx529_0
          try clear hx530_0
          try clear hx531_0
          try clear hx532_0
          try clear hx533_0
          try clear hx537_0
          try clear hx538_0
          try clear p2
          try clear p529
          try clear p530
          try clear p531
          try clear p532
          try clear p533
          try clear p537
          try clear p538
          try clear p6
          try clear q529
          try clear q530
          try clear q531
          try clear q532
          try clear q533
          try clear q537
          try clear q538
          obtain ⟨kq, x103_28, rfl, HA, HJ28, HO_7, HO_12, HB⟩ := hcut
          cases kq with
          | zero => exact absurd HA.out (by simp [gamplaw07_PairSides.j2])
          | succ kj28 =>
            have H := HA.out
            clear HA
            simp only [gamplaw07_PairSides.j2] at H
            by_cases c39 : x103_28 = true
            · subst c39
              have H1 : (some false) = some r := by rw [if_pos rfl] at H; exact H
              clear H
              have H := H1
              clear H1
              obtain rfl := Option.some.inj H
              go_wp2
              go_ret
              exact ⟨by first | rfl | (simp [errW_none, errW_some] <;> rfl) | (simp [*, errW_none, errW_some] <;> rfl), by repeat (first | (with_reducible first | exact HB.out | apply below_alloc | apply pw_below_drewN | apply below_drew1) | exact HB.out)⟩
            · replace c39 := Bool.eq_false_iff.mpr c39
              subst c39
              have H1 : (gamplaw07_PairSides.l2 kj28 (wrap64 ((t517.length : Int) / 2)) x7_1 t548 0) = some r := by rw [if_neg (show ¬ (false = true) by decide)] at H; exact H
              clear H
              have H := H1
              clear H1
              have H' := Aside0.mk H
              clear H
              go_wp2
              go_loopg [14] kj28 (fun kq v14 w' => ∃ (x14_3 : Int), v14 = .int .i64 x14_3 ∧ Aside0 (gamplaw07_PairSides.l2 kq (wrap64 ((t517.length : Int) / 2)) x7_1 t548 x14_3 = some r) ∧ Aside0 (kq ≤ kj28) ∧ Aside0 (Kd.S (Kd.slice 3 (Kd.int .i64)) 24 w' w.heap.size (fun k_ => some k_ ≠ (v550 : Value).ownBlock) (.slice Ao30 x7_1.length co30) x7_1) ∧ Aside0 (Kd.R (Kd.int .i64) 3 w' w.heap.size (fun _ => True) v550 t548) ∧ Aside0 (Below w.heap.size w w'))
              case atStart => exact ⟨(0), (by first | rfl | (simp; done) | (simp [*]; done)), H', ⟨Nat.le_refl _⟩, ⟨by (with_reducible repeat (first | apply Kd.S_alloc | apply Kd.S_drewN | apply Kd.S_drew)); exact HO_7.out⟩, ⟨by (with_reducible repeat (first | apply Kd.R_alloc | apply Kd.R_drewN | apply Kd.R_drew)); exact HO_12.out⟩, ⟨by repeat (first | (with_reducible first | exact HB.out | apply below_alloc | apply pw_below_drewN | apply below_drew1) | exact HB.out)⟩⟩
              case round =>
                clear H'
                try clear c1
                try clear c2
                try clear p2
                try clear c3
                try clear c5
                try clear p5
                try clear q5
                try clear hx5
                try clear p6
                try clear c7
                try clear c8
                try clear c8b0
                try clear c13
                try clear c13b0
                try clear c14
                try clear c14b0
                try clear c15
                try clear c15b0
                try clear c16
                try clear c16b0
                try clear c17
                try clear c17b0
                try clear c17b1
                try clear c17b2
                try clear c18
                try clear c20
                try clear c22
                try clear c23
                try clear c32
                try clear c32b0
                try clear c32b1
                try clear c34
                try clear c39
                try clear hx529_0
                try clear hx530_0
                try clear hx531_0
                try clear hx532_0
                try clear hx533_0
                try clear hx537_0
                try clear hx538_0
                try clear p2
                try clear p5
                try clear p529
                try clear p530
                try clear p531
                try clear p532
                try clear p533
                try clear p537
                try clear p538
                try clear p6
                try clear q5
                try clear q529
                try clear q530
                try clear q531
                try clear q532
                try clear q533
                try clear q537
                try clear q538
                obtain ⟨x14_3, rfl, HA, HK3, HO_7, HO_12, HB⟩ := hrel
                cases gk with
                | zero => exact absurd HA.out (by simp [gamplaw07_PairSides.l2])
                | succ k3 =>
                  have H := HA.out
                  clear HA
                  simp only [gamplaw07_PairSides.l2] at H
                  by_cases c40 : x14_3 < (x7_1.length : Int)
                  · rw [if_pos c40] at H
                    have c40b0 : decide (x14_3 < (x7_1.length : Int)) = true := decide_eq_true c40
                    clear c40
                    by_cases c41 : 0 ≤ x14_3
                    · rw [if_pos c41] at H
                      have c41b0 : decide (0 ≤ x14_3) = true := decide_eq_true c41
                      clear c41
                      by_cases c42 : x14_3 < (t548.length : Int)
                      · rw [if_pos c42] at H
                        have c42b0 : decide (x14_3 < (t548.length : Int)) = true := decide_eq_true c42
                        clear c42
                        by_cases c43 : (rd t548 x14_3) < 0
                        · rw [if_pos c43] at H
                          have c43b0 : decide ((rd t548 x14_3) < 0) = true := decide_eq_true c43
                          clear c43
                          obtain rfl := Option.some.inj H
                          obtain ⟨Ao44, co44, eo44⟩ := Kd.R_slice HO_12.out
                          subst eo44
                          have p554 : 0 ≤ (x14_3 : Int) := of_decide_eq_true (by first | (with_reducible assumption) | assumption)
                          have q554 : x14_3 < (t548.length : Int) := of_decide_eq_true (by first | (with_reducible assumption) | assumption)
                          obtain ⟨ad554, e554, hx554_0⟩ := Kd.at_int (Kd.R_reads' HO_12.out).2.2 x14_3 p554 q554
                          cases e554
                          replace p554 := eq_true p554
                          replace q554 := eq_true q554
                          go_wp2
                          go_ret
                          exact ⟨by first | rfl | (simp [errW_none, errW_some] <;> rfl) | (simp [*, errW_none, errW_some] <;> rfl), by repeat (first | (with_reducible first | exact HB.out | apply below_alloc | apply pw_below_drewN | apply below_drew1) | exact HB.out)⟩
                        · rw [if_neg c43] at H
                          have c43b0 : decide ((rd t548 x14_3) < 0) = false := decide_eq_false c43
                          clear c43
                          by_cases c45 : ((decide ((rd t548 x14_3) < (wrap64 ((t517.length : Int) / 2)))) == (decide (x14_3 < (wrap64 ((t517.length : Int) / 2))))) = true
                          · rw [if_pos c45] at H
                            have c45b0 : ((decide ((rd t548 x14_3) < (wrap64 ((t517.length : Int) / 2)))) == (decide (x14_3 < (wrap64 ((t517.length : Int) / 2))))) = true := c45
                            (try (have c45b1 : decide ((decide ((rd t548 x14_3) < (wrap64 ((t517.length : Int) / 2)))) = (decide (x14_3 < (wrap64 ((t517.length : Int) / 2))))) = true := by simpa using c45))
                            (try (have c45b2 : ((decide ((rd t548 x14_3) < (wrap64 ((t517.length : Int) / 2)))) == (decide (x14_3 < (wrap64 ((t517.length : Int) / 2))))) = true := by simpa using c45))
                            clear c45
                            obtain rfl := Option.some.inj H
                            obtain ⟨Ao46, co46, eo46⟩ := Kd.R_slice HO_12.out
                            subst eo46
                            have p554 : 0 ≤ (x14_3 : Int) := of_decide_eq_true (by first | (with_reducible assumption) | assumption)
                            have q554 : x14_3 < (t548.length : Int) := of_decide_eq_true (by first | (with_reducible assumption) | assumption)
                            obtain ⟨ad554, e554, hx554_0⟩ := Kd.at_int (Kd.R_reads' HO_12.out).2.2 x14_3 p554 q554
                            cases e554
                            replace p554 := eq_true p554
                            replace q554 := eq_true q554
                            have p555 : 0 ≤ (x14_3 : Int) := of_decide_eq_true (by first | (with_reducible assumption) | assumption)
                            have q555 : x14_3 < (t548.length : Int) := of_decide_eq_true (by first | (with_reducible assumption) | assumption)
                            obtain ⟨ad555, e555, hx555_0⟩ := Kd.at_int (Kd.R_reads' HO_12.out).2.2 x14_3 p555 q555
                            obtain rfl : ad554 = ad555 := (by injection e555)
                            replace p555 := eq_true p555
                            replace q555 := eq_true q555
                            go_wp2
                            go_ret
                            exact ⟨by first | rfl | (simp [errW_none, errW_some] <;> rfl) | (simp [*, errW_none, errW_some] <;> rfl), by repeat (first | (with_reducible first | exact HB.out | apply below_alloc | apply pw_below_drewN | apply below_drew1) | exact HB.out)⟩
                          · rw [if_neg c45] at H
                            have c45b0 : ((decide ((rd t548 x14_3) < (wrap64 ((t517.length : Int) / 2)))) == (decide (x14_3 < (wrap64 ((t517.length : Int) / 2))))) = false := by simpa using c45
                            (try (have c45b1 : decide ((decide ((rd t548 x14_3) < (wrap64 ((t517.length : Int) / 2)))) = (decide (x14_3 < (wrap64 ((t517.length : Int) / 2))))) = false := by simpa using c45))
                            (try (have c45b2 : ((decide ((rd t548 x14_3) < (wrap64 ((t517.length : Int) / 2)))) == (decide (x14_3 < (wrap64 ((t517.length : Int) / 2))))) = false := by simpa using c45))
                            (try (have c45b3 : ¬ ((decide ((rd t548 x14_3) < (wrap64 ((t517.length : Int) / 2)))) = (decide (x14_3 < (wrap64 ((t517.length : Int) / 2))))) := by simpa using c45))
                            clear c45
                            have H' := Aside0.mk H
                            clear H
                            obtain ⟨Ao47, co47, eo47⟩ := Kd.R_slice HO_12.out
                            subst eo47
                            have p554 : 0 ≤ (x14_3 : Int) := of_decide_eq_true (by first | (with_reducible assumption) | assumption)
                            have q554 : x14_3 < (t548.length : Int) := of_decide_eq_true (by first | (with_reducible assumption) | assumption)
                            obtain ⟨ad554, e554, hx554_0⟩ := Kd.at_int (Kd.R_reads' HO_12.out).2.2 x14_3 p554 q554
                            cases e554
                            replace p554 := eq_true p554
                            replace q554 := eq_true q554
                            have p555 : 0 ≤ (x14_3 : Int) := of_decide_eq_true (by first | (with_reducible assumption) | assumption)
                            have q555 : x14_3 < (t548.length : Int) := of_decide_eq_true (by first | (with_reducible assumption) | assumption)
                            obtain ⟨ad555, e555, hx555_0⟩ := Kd.at_int (Kd.R_reads' HO_12.out).2.2 x14_3 p555 q555
                            obtain rfl : ad554 = ad555 := (by injection e555)
                            replace p555 := eq_true p555
                            replace q555 := eq_true q555
                            go_wp2
                            go_roundg k3
                            case measure => have := HK1.out; have := HJ28.out; have := HK3.out; omega
                            case rel => exact ⟨(wrap64 (x14_3 + 1)), (by first | rfl | (simp; done) | (simp [*]; done)), H', ⟨by have := HK1.out; have := HJ28.out; have := HK3.out; omega⟩, ⟨by (with_reducible repeat (first | apply Kd.S_alloc | apply Kd.S_drewN | apply Kd.S_drew)); exact HO_7.out⟩, ⟨by (with_reducible repeat (first | apply Kd.R_alloc | apply Kd.R_drewN | apply Kd.R_drew)); exact HO_12.out⟩, ⟨by repeat (first | (with_reducible first | exact HB.out | apply below_alloc | apply pw_below_drewN | apply below_drew1) | exact HB.out)⟩⟩
                      · rw [if_neg c42] at H
                        exact absurd H (by simp)
                    · rw [if_neg c41] at H
                      exact absurd H (by simp)
                  · rw [if_neg c40] at H
                    have c40b0 : decide (x14_3 < (x7_1.length : Int)) = false := decide_eq_false c40
                    clear c40
                    replace H := Option.bind_eq_some_iff.mp H
                    obtain ⟨⟨t556, t557, t558⟩, A480, H⟩ := H
                    replace H : ((pair_Odd.f k3 x7_1).bind fun bt559 => (if t558 = true then (some false) else (if (bt559.1.length : Int) = 0 then (some (bt559.2 == 0)) else (some false)))) = some r := H
                    have A48 := Aside0.mk A480
                    clear A480
                    replace H := Option.bind_eq_some_iff.mp H
                    obtain ⟨⟨t559, t560⟩, A490, H⟩ := H
                    replace H : (if t558 = true then (some false) else (if (t559.length : Int) = 0 then (some (t560 == 0)) else (some false))) = some r := H
                    have A49 := Aside0.mk A490
                    clear A490
                    by_cases c50 : t558 = true
                    · subst c50
                      have H1 : (some false) = some r := by rw [if_pos rfl] at H; exact H
                      clear H
                      have H := H1
                      clear H1
                      obtain rfl := Option.some.inj H
                      obtain ⟨Ao51, co51, eo51⟩ := Kd.R_slice HO_12.out
                      subst eo51
                      go_wp2_with (first | ((with_reducible refine gate_callee (f := 19) rfl ?_); refine goesL_ (some 130) rfl rfl Try.func19 (by kernel_rfl) rfl #[.slice Ao30 x7_1.length co30, .slice Ao51 t548.length co51] rfl (by (try simp only [List.map_toArray, List.map_cons, List.map_nil]); first | done | rfl | (simp only [List.length_drop, List.length_take]; rfl)) ?_; (with_reducible refine (gampref07_Blocks.calls k3 _ _ x7_1 _ _ t548 t556 t557 true _ ?side1 ?side2 ?side3 ?side4 A48.out).mono ?_); (case side1 => repeat (first | exact (Kd.S_reads' HO_7.out).2.2 | (with_reducible refine Kd.C_alloc ?_ _) | (with_reducible refine Kd.C_drewN ?_ _) | (with_reducible refine Kd.C_drew ?_))); (case side2 => exact (Kd.S_reads' HO_7.out).2.1); (case side3 => repeat (first | exact (Kd.R_reads' HO_12.out).2.2 | (with_reducible refine Kd.C_alloc ?_ _) | (with_reducible refine Kd.C_drewN ?_ _) | (with_reducible refine Kd.C_drew ?_))); (case side4 => exact (Kd.R_reads' HO_12.out).2.1); rintro e w' ⟨rfl, ⟨nd, rfl⟩⟩; refine ⟨_, rfl, ?_⟩) | ((with_reducible refine gate_callee (f := 14) rfl ?_); refine goesL_ (some 136) rfl rfl Try.func14 (by kernel_rfl) rfl #[.slice Ao30 x7_1.length co30] rfl (by (try simp only [List.map_toArray, List.map_cons, List.map_nil]); first | done | rfl | (simp only [List.length_drop, List.length_take]; rfl)) ?_; (with_reducible refine (pair_Odd.calls k3 _ _ x7_1 t559 t560 _ ?side1 ?side2 A49.out).mono ?_); (case side1 => repeat (first | exact (Kd.S_reads' HO_7.out).2.2 | (with_reducible refine Kd.C_alloc ?_ _) | (with_reducible refine Kd.C_drewN ?_ _) | (with_reducible refine Kd.C_drew ?_))); (case side2 => exact (Kd.S_reads' HO_7.out).2.1); rintro e w52 ⟨v561, rfl, ho0, hb⟩; refine ⟨_, rfl, ?_⟩; have n0_ := Aside0.mk (Kd.S_elder' (by (with_reducible repeat (first | apply Kd.S_alloc | apply Kd.S_drewN | apply Kd.S_drew)); exact HO_7.out) (Kd.S_base ho0) hb); have n1_ := Aside0.mk (Kd.R_below (by (with_reducible repeat (first | apply Kd.R_alloc | apply Kd.R_drewN | apply Kd.R_drew)); exact HO_12.out) hb); have n2_ := Aside0.mk (Kd.S_lower (Kd.S_new' (Kd.S_new' ho0 (Kd.S_lt (by (with_reducible repeat (first | apply Kd.S_alloc | apply Kd.S_drewN | apply Kd.S_drew)); exact HO_7.out))) (Kd.R_lt (by (with_reducible repeat (first | apply Kd.R_alloc | apply Kd.R_drewN | apply Kd.R_drew)); exact HO_12.out))) (below_size (by repeat (first | (with_reducible first | exact HB.out | apply below_alloc | apply pw_below_drewN | apply below_drew1) | exact HB.out)))); have n3_ := Aside0.mk (below_step (by repeat (first | (with_reducible first | exact HB.out | apply below_alloc | apply pw_below_drewN | apply below_drew1) | exact HB.out)) hb); clear HO_7; clear HO_12; clear HB; have HO_7 := n0_; have HO_12 := n1_; have HO562 := n2_; have HB := n3_; clear n0_ n1_ n2_ n3_; (try clear hb); (try clear hb2); (try clear hk); (try clear hi); (try clear ho0)))
                      go_ret
                      exact ⟨by first | rfl | (simp [errW_none, errW_some] <;> rfl) | (simp [*, errW_none, errW_some] <;> rfl), by repeat (first | (with_reducible first | exact HB.out | apply below_alloc | apply pw_below_drewN | apply below_drew1) | exact HB.out)⟩
                    · replace c50 := Bool.eq_false_iff.mpr c50
                      subst c50
                      have H1 : (if (t559.length : Int) = 0 then (some (t560 == 0)) else (some false)) = some r := by rw [if_neg (show ¬ (false = true) by decide)] at H; exact H
                      clear H
                      have H := H1
                      clear H1
                      by_cases c53 : (t559.length : Int) = 0
                      · rw [if_pos c53] at H
                        have c53b0 : ((t559.length : Int) == 0) = true := beq_iff_eq.mpr c53
                        have c53b1 : ((t559.length : Int) != 0) = false := bne_eq_false_iff_eq.mpr c53
                        clear c53
                        obtain rfl := Option.some.inj H
                        obtain ⟨Ao54, co54, eo54⟩ := Kd.R_slice HO_12.out
                        subst eo54
                        go_wp2_with (first | ((with_reducible refine gate_callee (f := 19) rfl ?_); refine goesL_ (some 130) rfl rfl Try.func19 (by kernel_rfl) rfl #[.slice Ao30 x7_1.length co30, .slice Ao54 t548.length co54] rfl (by (try simp only [List.map_toArray, List.map_cons, List.map_nil]); first | done | rfl | (simp only [List.length_drop, List.length_take]; rfl)) ?_; (with_reducible refine (gampref07_Blocks.calls k3 _ _ x7_1 _ _ t548 t556 t557 false _ ?side1 ?side2 ?side3 ?side4 A48.out).mono ?_); (case side1 => repeat (first | exact (Kd.S_reads' HO_7.out).2.2 | (with_reducible refine Kd.C_alloc ?_ _) | (with_reducible refine Kd.C_drewN ?_ _) | (with_reducible refine Kd.C_drew ?_))); (case side2 => exact (Kd.S_reads' HO_7.out).2.1); (case side3 => repeat (first | exact (Kd.R_reads' HO_12.out).2.2 | (with_reducible refine Kd.C_alloc ?_ _) | (with_reducible refine Kd.C_drewN ?_ _) | (with_reducible refine Kd.C_drew ?_))); (case side4 => exact (Kd.R_reads' HO_12.out).2.1); rintro e w' ⟨rfl, ⟨nd, rfl⟩⟩; refine ⟨_, rfl, ?_⟩) | ((with_reducible refine gate_callee (f := 14) rfl ?_); refine goesL_ (some 136) rfl rfl Try.func14 (by kernel_rfl) rfl #[.slice Ao30 x7_1.length co30] rfl (by (try simp only [List.map_toArray, List.map_cons, List.map_nil]); first | done | rfl | (simp only [List.length_drop, List.length_take]; rfl)) ?_; (with_reducible refine (pair_Odd.calls k3 _ _ x7_1 t559 t560 _ ?side1 ?side2 A49.out).mono ?_); (case side1 => repeat (first | exact (Kd.S_reads' HO_7.out).2.2 | (with_reducible refine Kd.C_alloc ?_ _) | (with_reducible refine Kd.C_drewN ?_ _) | (with_reducible refine Kd.C_drew ?_))); (case side2 => exact (Kd.S_reads' HO_7.out).2.1); rintro e w55 ⟨v561, rfl, ho0, hb⟩; refine ⟨_, rfl, ?_⟩; have n0_ := Aside0.mk (Kd.S_elder' (by (with_reducible repeat (first | apply Kd.S_alloc | apply Kd.S_drewN | apply Kd.S_drew)); exact HO_7.out) (Kd.S_base ho0) hb); have n1_ := Aside0.mk (Kd.R_below (by (with_reducible repeat (first | apply Kd.R_alloc | apply Kd.R_drewN | apply Kd.R_drew)); exact HO_12.out) hb); have n2_ := Aside0.mk (Kd.S_lower (Kd.S_new' (Kd.S_new' ho0 (Kd.S_lt (by (with_reducible repeat (first | apply Kd.S_alloc | apply Kd.S_drewN | apply Kd.S_drew)); exact HO_7.out))) (Kd.R_lt (by (with_reducible repeat (first | apply Kd.R_alloc | apply Kd.R_drewN | apply Kd.R_drew)); exact HO_12.out))) (below_size (by repeat (first | (with_reducible first | exact HB.out | apply below_alloc | apply pw_below_drewN | apply below_drew1) | exact HB.out)))); have n3_ := Aside0.mk (below_step (by repeat (first | (with_reducible first | exact HB.out | apply below_alloc | apply pw_below_drewN | apply below_drew1) | exact HB.out)) hb); clear HO_7; clear HO_12; clear HB; have HO_7 := n0_; have HO_12 := n1_; have HO562 := n2_; have HB := n3_; clear n0_ n1_ n2_ n3_; (try clear hb); (try clear hb2); (try clear hk); (try clear hi); (try clear ho0); obtain ⟨Ao56, co56, eo56⟩ := Kd.S_slice HO562.out; subst eo56))
                        go_ret
                        exact ⟨by first | rfl | (simp [errW_none, errW_some] <;> rfl) | (simp [*, errW_none, errW_some] <;> rfl), by repeat (first | (with_reducible first | exact HB.out | apply below_alloc | apply pw_below_drewN | apply below_drew1) | exact HB.out)⟩
                      · rw [if_neg c53] at H
                        have c53b0 : ((t559.length : Int) == 0) = false := beq_eq_false_iff_ne.mpr c53
                        have c53b1 : ((t559.length : Int) != 0) = true := bne_iff_ne.mpr c53
                        have c53b2 : ¬ (t559 = []) := fun h_ => c53 (by rw [h_]; rfl)
                        obtain rfl := Option.some.inj H
                        obtain ⟨Ao57, co57, eo57⟩ := Kd.R_slice HO_12.out
                        subst eo57
                        go_wp2_with (first | ((with_reducible refine gate_callee (f := 19) rfl ?_); refine goesL_ (some 130) rfl rfl Try.func19 (by kernel_rfl) rfl #[.slice Ao30 x7_1.length co30, .slice Ao57 t548.length co57] rfl (by (try simp only [List.map_toArray, List.map_cons, List.map_nil]); first | done | rfl | (simp only [List.length_drop, List.length_take]; rfl)) ?_; (with_reducible refine (gampref07_Blocks.calls k3 _ _ x7_1 _ _ t548 t556 t557 false _ ?side1 ?side2 ?side3 ?side4 A48.out).mono ?_); (case side1 => repeat (first | exact (Kd.S_reads' HO_7.out).2.2 | (with_reducible refine Kd.C_alloc ?_ _) | (with_reducible refine Kd.C_drewN ?_ _) | (with_reducible refine Kd.C_drew ?_))); (case side2 => exact (Kd.S_reads' HO_7.out).2.1); (case side3 => repeat (first | exact (Kd.R_reads' HO_12.out).2.2 | (with_reducible refine Kd.C_alloc ?_ _) | (with_reducible refine Kd.C_drewN ?_ _) | (with_reducible refine Kd.C_drew ?_))); (case side4 => exact (Kd.R_reads' HO_12.out).2.1); rintro e w' ⟨rfl, ⟨nd, rfl⟩⟩; refine ⟨_, rfl, ?_⟩) | ((with_reducible refine gate_callee (f := 14) rfl ?_); refine goesL_ (some 136) rfl rfl Try.func14 (by kernel_rfl) rfl #[.slice Ao30 x7_1.length co30] rfl (by (try simp only [List.map_toArray, List.map_cons, List.map_nil]); first | done | rfl | (simp only [List.length_drop, List.length_take]; rfl)) ?_; (with_reducible refine (pair_Odd.calls k3 _ _ x7_1 t559 t560 _ ?side1 ?side2 A49.out).mono ?_); (case side1 => repeat (first | exact (Kd.S_reads' HO_7.out).2.2 | (with_reducible refine Kd.C_alloc ?_ _) | (with_reducible refine Kd.C_drewN ?_ _) | (with_reducible refine Kd.C_drew ?_))); (case side2 => exact (Kd.S_reads' HO_7.out).2.1); rintro e w58 ⟨v561, rfl, ho0, hb⟩; refine ⟨_, rfl, ?_⟩; have n0_ := Aside0.mk (Kd.S_elder' (by (with_reducible repeat (first | apply Kd.S_alloc | apply Kd.S_drewN | apply Kd.S_drew)); exact HO_7.out) (Kd.S_base ho0) hb); have n1_ := Aside0.mk (Kd.R_below (by (with_reducible repeat (first | apply Kd.R_alloc | apply Kd.R_drewN | apply Kd.R_drew)); exact HO_12.out) hb); have n2_ := Aside0.mk (Kd.S_lower (Kd.S_new' (Kd.S_new' ho0 (Kd.S_lt (by (with_reducible repeat (first | apply Kd.S_alloc | apply Kd.S_drewN | apply Kd.S_drew)); exact HO_7.out))) (Kd.R_lt (by (with_reducible repeat (first | apply Kd.R_alloc | apply Kd.R_drewN | apply Kd.R_drew)); exact HO_12.out))) (below_size (by repeat (first | (with_reducible first | exact HB.out | apply below_alloc | apply pw_below_drewN | apply below_drew1) | exact HB.out)))); have n3_ := Aside0.mk (below_step (by repeat (first | (with_reducible first | exact HB.out | apply below_alloc | apply pw_below_drewN | apply below_drew1) | exact HB.out)) hb); clear HO_7; clear HO_12; clear HB; have HO_7 := n0_; have HO_12 := n1_; have HO562 := n2_; have HB := n3_; clear n0_ n1_ n2_ n3_; (try clear hb); (try clear hb2); (try clear hk); (try clear hi); (try clear ho0); obtain ⟨Ao59, co59, eo59⟩ := Kd.S_slice HO562.out; subst eo59))
                        go_ret
                        exact ⟨by first | rfl | (simp [errW_none, errW_some] <;> rfl) | (simp [*, errW_none, errW_some] <;> rfl), by repeat (first | (with_reducible first | exact HB.out | apply below_alloc | apply pw_below_drewN | apply below_drew1) | exact HB.out)⟩
/-- THE ONE PURE STATEMENT of gamplaw07_PairSides: yours. -/
def gamplaw07_PairSides.Pure : Prop := ∀ (a0 : Int) (l1 : List Int), (Lit.int .u8 a0).wf = true → l1.length ≤ maxLen → l1.length * 2 ≤ 140737488351232 → (∀ x ∈ l1, (Lit.int .u16 x).wf = true) → ∃ k, gamplaw07_PairSides.f k a0 l1 = some true
theorem gamplaw07_PairSides.walk (P : gamplaw07_PairSides.Pure) (a0 : Int) (a1 : Option Addr) (len1 cap1 : Nat) (z1 : List Int) (w : World) (w0 : (Lit.int .u8 a0).wf = true) (w1 : (a1 = none ∧ len1 = 0 ∧ cap1 = 0 ∧ z1 = []) ∨ ∃ x, a1 = some x ∧ len1 ≤ cap1 ∧ cap1 ≤ maxLen ∧ z1.length = cap1 ∧ (∀ i, i < z1.length → w.cell? (x.add i) = some (.int .u16 (z1.getD i 0))) ∧ ∀ n ∈ z1, (Lit.int .u16 n).wf = true) (y1 : len1 * 2 ≤ 140737488351232) :
    Calls Try.prog 7 #[.int .u8 a0, .slice a1 len1 cap1] w fun e w' => e = .returned (.bool true) ∧ Below w.heap.size w w' := by
  obtain ⟨l1, rfl, hr1, hm1, hw1, hc1⟩ := ReadsInt.ofRowC w1
  obtain ⟨k, h⟩ := P a0 l1 w0 hm1 y1 hw1
  refine (gamplaw07_PairSides.calls k a0 _ _ l1 true w (Kd.C_of_reads (d := (0 : Int)) (h1 := fun _ => rfl) hr1) hc1 h).mono ?_
  rintro e w' ⟨rfl, hd⟩
  exact ⟨rfl, hd⟩
end Go.Proofs.Ytilabipmgcpnjaa.Fn

/- The declarations of Oxx2 that the claim Qc needs. -/
import Derived.Test.YtiknnpfdpecfdaaQcTkP
import Derived.Test.YtiknnpfdpecfdaaQcOxx0
import Derived.Test.YtiknnpfdpecfdaaQcOxx1
namespace Go.Proofs.Ytiknnpfdpecfdaa.Ox
open Go.RowKit Go.Proofs.Ytiknnpfdpecfdaa.Own Go.Proofs.Ytiknnpfdpecfdaa.Gx Go.Proofs.YtiknnpfdpecfdaaW.PrintWords Go.Proofs.YtiknnpfdpecfdaaW.PrintLast Go.Proofs.YtiknnpfdpecfdaaW.PrintMore
attribute [local go_sem] max2_int min2_int max_two min_two max_three min_three max_four min_four
set_option linter.unusedVariables false
set_option linter.unusedSimpArgs false
mutual
def gamplaw01_FoldOrders.j0 : Nat → List Int → List Int → Bool → Int → ByteArray → Int → Int → Int → Int → Option (Bool)
  | 0, _, _, _, _, _, _, _, _, _ => none
  | k + 1, x5, x6, x7, x8, x9, x10, x11, x12, x13 => if x13 = 0 then ((Gx.gampref01_Folds.f k x5 x6 false).bind fun t131 => (if (x7 != t131) = true then (gamplaw01_FoldOrders.j1 k x5 x6 x9 x10 x11 x12 t131 true) else (if x8 = 0 then ((gamplaw01_lives.f k).bind fun t132 => (gamplaw01_FoldOrders.j1 k x5 x6 x9 x10 x11 x12 t131 (!t132))) else (gamplaw01_FoldOrders.j1 k x5 x6 x9 x10 x11 x12 t131 true)))) else (if x7 = true then (some false) else (if x8 = x13 then (if x9.toList = ([] : List UInt8) then (if x10 = x13 then (if x11 = 0 then (if x12 = x13 then ((gamplaw01_lives.f k).bind fun t130 => (some t130)) else (some false)) else (some false)) else (some false)) else (some false)) else (some false)))
def gamplaw01_FoldOrders.j1 : Nat → List Int → List Int → ByteArray → Int → Int → Int → Bool → Bool → Option (Bool)
  | 0, _, _, _, _, _, _, _, _ => none
  | k + 1, x5, x6, x9, x10, x11, x12, x14, x89 => if x89 = true then (some false) else (if x14 = true then ((Gx.gampref01_All.f k x5 false).bind fun t133 => ((gampref01_Letters.f k x5 x6 false).bind fun t136 => (if x9.toList = t136.toList then (if x10 = 0 then (if x12 = 0 then (if x11 ≥ 0 then (if x11 < (t133.length : Int) then (if 0 ≤ x11 then ((Gx.gampref01_Same.f k (rd_L3 t133 x11) x6).bind fun t138 => (some t138)) else (none)) else (some false)) else (some false)) else (some false)) else (some false)) else (some false)))) else (if x9.toList = ([] : List UInt8) then (if x10 = 5 then (if x11 = 0 then (some (x12 == 5)) else (some false)) else (some false)) else (some false)))
end
def gamplaw01_FoldOrders.f (k : Nat) (l0 : List Int) (l1 : List Int) : Option (Bool) := (Gx.gamplaw01_cut.f l0 6 9).bind fun t116 => ((Gx.gamplaw01_cut.f l1 6 9).bind fun t119 => ((fold_Folds.f t116 t119).bind fun bt122 => ((fold_Creases.f k t116 t119).bind fun bt124 => ((fold_Rank.f t116 t119).bind fun bt126 => ((Gx.gampref01_Strip.f k t116).bind fun t128 => (if t128 = true then ((gampref01_Permutation.f k t119 (t116.length : Int)).bind fun t129 => (if t129 = true then (gamplaw01_FoldOrders.j0 k t116 t119 bt122.1 bt122.2 bt124.1 bt124.2 bt126.1 bt126.2 0) else (gamplaw01_FoldOrders.j0 k t116 t119 bt122.1 bt122.2 bt124.1 bt124.2 bt126.1 bt126.2 2))) else (gamplaw01_FoldOrders.j0 k t116 t119 bt122.1 bt122.2 bt124.1 bt124.2 bt126.1 bt126.2 1)))))))
set_option maxHeartbeats 8000000 in
set_option maxRecDepth 100000 in
theorem gamplaw01_FoldOrders.calls (k : Nat) (A0 : Option Addr) (c0 : Nat) (l0 : List Int) (A1 : Option Addr) (c1 : Nat) (l1 : List Int) (r : Bool) (w : World) (hr0 : Kd.C (Kd.int .i64) w A0 l0.length l0) (hc0 : l0.length ≤ c0) (hr1 : Kd.C (Kd.int .i64) w A1 l1.length l1) (hc1 : l1.length ≤ c1) (h : gamplaw01_FoldOrders.f k l0 l1 = some r) (hrt : r = true) :
  Calls Try.prog 11 #[.slice A0 l0.length c0, .slice A1 l1.length c1] w fun e w' => e = .returned (.bool r) ∧ Below w.heap.size w w' := by
 have HR0 := Aside0.mk hr0
 have HC0 := Aside0.mk hc0
 clear hr0 hc0
 have HR1 := Aside0.mk hr1
 have HC1 := Aside0.mk hc1
 clear hr1 hc1
 have HB := Aside0.mk (Below.refl w.heap.size w)
 have H : ((Gx.gamplaw01_cut.f l0 6 9).bind fun t116 => ((Gx.gamplaw01_cut.f l1 6 9).bind fun t119 => ((fold_Folds.f t116 t119).bind fun bt122 => ((fold_Creases.f k t116 t119).bind fun bt124 => ((fold_Rank.f t116 t119).bind fun bt126 => ((Gx.gampref01_Strip.f k t116).bind fun t128 => (if t128 = true then ((gampref01_Permutation.f k t119 (t116.length : Int)).bind fun t129 => (if t129 = true then (gamplaw01_FoldOrders.j0 k t116 t119 bt122.1 bt122.2 bt124.1 bt124.2 bt126.1 bt126.2 0) else (gamplaw01_FoldOrders.j0 k t116 t119 bt122.1 bt122.2 bt124.1 bt124.2 bt126.1 bt126.2 2))) else (gamplaw01_FoldOrders.j0 k t116 t119 bt122.1 bt122.2 bt124.1 bt124.2 bt126.1 bt126.2 1)))))))) = some r := h
 clear h
 replace H := Option.bind_eq_some_iff.mp H
 obtain ⟨t116, A30, H⟩ := H
 replace H : ((Gx.gamplaw01_cut.f l1 6 9).bind fun t119 => ((fold_Folds.f t116 t119).bind fun bt122 => ((fold_Creases.f k t116 t119).bind fun bt124 => ((fold_Rank.f t116 t119).bind fun bt126 => ((Gx.gampref01_Strip.f k t116).bind fun t128 => (if t128 = true then ((gampref01_Permutation.f k t119 (t116.length : Int)).bind fun t129 => (if t129 = true then (gamplaw01_FoldOrders.j0 k t116 t119 bt122.1 bt122.2 bt124.1 bt124.2 bt126.1 bt126.2 0) else (gamplaw01_FoldOrders.j0 k t116 t119 bt122.1 bt122.2 bt124.1 bt124.2 bt126.1 bt126.2 2))) else (gamplaw01_FoldOrders.j0 k t116 t119 bt122.1 bt122.2 bt124.1 bt124.2 bt126.1 bt126.2 1))))))) = some r := H
 have A3 := Aside0.mk A30
 clear A30
 replace H := Option.bind_eq_some_iff.mp H
 obtain ⟨t119, A40, H⟩ := H
 replace H : ((fold_Folds.f t116 t119).bind fun bt122 => ((fold_Creases.f k t116 t119).bind fun bt124 => ((fold_Rank.f t116 t119).bind fun bt126 => ((Gx.gampref01_Strip.f k t116).bind fun t128 => (if t128 = true then ((gampref01_Permutation.f k t119 (t116.length : Int)).bind fun t129 => (if t129 = true then (gamplaw01_FoldOrders.j0 k t116 t119 bt122.1 bt122.2 bt124.1 bt124.2 bt126.1 bt126.2 0) else (gamplaw01_FoldOrders.j0 k t116 t119 bt122.1 bt122.2 bt124.1 bt124.2 bt126.1 bt126.2 2))) else (gamplaw01_FoldOrders.j0 k t116 t119 bt122.1 bt122.2 bt124.1 bt124.2 bt126.1 bt126.2 1)))))) = some r := H
 have A4 := Aside0.mk A40
 clear A40
 replace H := Option.bind_eq_some_iff.mp H
 obtain ⟨⟨t122, t123⟩, A50, H⟩ := H
 replace H : ((fold_Creases.f k t116 t119).bind fun bt124 => ((fold_Rank.f t116 t119).bind fun bt126 => ((Gx.gampref01_Strip.f k t116).bind fun t128 => (if t128 = true then ((gampref01_Permutation.f k t119 (t116.length : Int)).bind fun t129 => (if t129 = true then (gamplaw01_FoldOrders.j0 k t116 t119 t122 t123 bt124.1 bt124.2 bt126.1 bt126.2 0) else (gamplaw01_FoldOrders.j0 k t116 t119 t122 t123 bt124.1 bt124.2 bt126.1 bt126.2 2))) else (gamplaw01_FoldOrders.j0 k t116 t119 t122 t123 bt124.1 bt124.2 bt126.1 bt126.2 1))))) = some r := H
 have A5 := Aside0.mk A50
 clear A50
 replace H := Option.bind_eq_some_iff.mp H
 obtain ⟨⟨t124, t125⟩, A60, H⟩ := H
 replace H : ((fold_Rank.f t116 t119).bind fun bt126 => ((Gx.gampref01_Strip.f k t116).bind fun t128 => (if t128 = true then ((gampref01_Permutation.f k t119 (t116.length : Int)).bind fun t129 => (if t129 = true then (gamplaw01_FoldOrders.j0 k t116 t119 t122 t123 t124 t125 bt126.1 bt126.2 0) else (gamplaw01_FoldOrders.j0 k t116 t119 t122 t123 t124 t125 bt126.1 bt126.2 2))) else (gamplaw01_FoldOrders.j0 k t116 t119 t122 t123 t124 t125 bt126.1 bt126.2 1)))) = some r := H
 have A6 := Aside0.mk A60
 clear A60
 replace H := Option.bind_eq_some_iff.mp H
 obtain ⟨⟨t126, t127⟩, A70, H⟩ := H
 replace H : ((Gx.gampref01_Strip.f k t116).bind fun t128 => (if t128 = true then ((gampref01_Permutation.f k t119 (t116.length : Int)).bind fun t129 => (if t129 = true then (gamplaw01_FoldOrders.j0 k t116 t119 t122 t123 t124 t125 t126 t127 0) else (gamplaw01_FoldOrders.j0 k t116 t119 t122 t123 t124 t125 t126 t127 2))) else (gamplaw01_FoldOrders.j0 k t116 t119 t122 t123 t124 t125 t126 t127 1))) = some r := H
 have A7 := Aside0.mk A70
 clear A70
 replace H := Option.bind_eq_some_iff.mp H
 obtain ⟨t128, A80, H⟩ := H
 replace H : (if t128 = true then ((gampref01_Permutation.f k t119 (t116.length : Int)).bind fun t129 => (if t129 = true then (gamplaw01_FoldOrders.j0 k t116 t119 t122 t123 t124 t125 t126 t127 0) else (gamplaw01_FoldOrders.j0 k t116 t119 t122 t123 t124 t125 t126 t127 2))) else (gamplaw01_FoldOrders.j0 k t116 t119 t122 t123 t124 t125 t126 t127 1)) = some r := H
 have A8 := Aside0.mk A80
 clear A80
 have HC9 := Aside0.mk H
 clear H
 go_enter Try.func11, Try.ntmps11
 go_upto_if 40 with (first | ((with_reducible refine gate_callee (f := 15) rfl ?_); refine gL 17 Try.func15 #[.slice A0 l0.length c0, .int .i64 6, .int .i64 9] ?_; (with_reducible refine (Gx.gamplaw01_cut.calls _ _ l0 6 9 t116 _ ?side1 ?side2 A3.out).mono ?_); (case side1 => exact cl (HR0.out)); (case side2 => exact HC0.out); rintro e w10 ⟨v117, rfl, ho0, hb⟩; refine ⟨_, rfl, ?_⟩; have n0_ := Aside0.mk (Kd.R_lower ho0 (below_size (bl HB))); have n1_ := Aside0.mk (below_step (bl HB) hb); clear HB; have HO118 := n0_; have HB := n1_; clear n0_ n1_; (try clear hb); (try clear hb2); (try clear hk); (try clear hi); (try clear ho0)) | ((with_reducible refine gate_callee (f := 15) rfl ?_); refine gL 19 Try.func15 #[.slice A1 l1.length c1, .int .i64 6, .int .i64 9] ?_; (with_reducible refine (Gx.gamplaw01_cut.calls _ _ l1 6 9 t119 _ ?side1 ?side2 A4.out).mono ?_); (case side1 => exact cl (Kd.C_below HR1.out HB.out)); (case side2 => exact HC1.out); rintro e w11 ⟨v120, rfl, ho0, hb⟩; refine ⟨_, rfl, ?_⟩; have n0_ := Aside0.mk (Kd.R_elder' (rl HO118) (Kd.R_base ho0) hb); have n1_ := Aside0.mk (Kd.R_lower (Kd.R_new' ho0 (Kd.R_lt (rl HO118))) (below_size (bl HB))); have n2_ := Aside0.mk (below_step (bl HB) hb); clear HO118; clear HB; have HO118 := n0_; have HO121 := n1_; have HB := n2_; clear n0_ n1_ n2_; (try clear hb); (try clear hb2); (try clear hk); (try clear hi); (try clear ho0); obtain ⟨Ao12, co12, eo12⟩ := Kd.R_slice HO118.out; subst eo12; obtain ⟨Ao13, co13, eo13⟩ := Kd.R_slice HO121.out; subst eo13) | ((with_reducible refine gate_callee (f := 37) rfl ?_); refine gL 23 Try.func37 #[.slice Ao12 t116.length co12, .slice Ao13 t119.length co13] ?_; (with_reducible refine (fold_Folds.calls _ _ t116 _ _ t119 t122 t123 _ ?side1 ?side2 ?side3 ?side4 A5.out).mono ?_); (case side1 => exact cl ((Kd.R_reads' HO118.out).2.2)); (case side2 => exact (Kd.R_reads' HO118.out).2.1); (case side3 => exact cl ((Kd.R_reads' HO121.out).2.2)); (case side4 => exact (Kd.R_reads' HO121.out).2.1); rintro e w14 ⟨rfl, hb⟩; refine ⟨_, rfl, ?_⟩; have n0_ := Aside0.mk (Kd.R_below (rl HO118) hb); have n1_ := Aside0.mk (Kd.R_below (rl HO121) hb); have n2_ := Aside0.mk (below_step (bl HB) hb); clear HO118; clear HO121; clear HB; have HO118 := n0_; have HO121 := n1_; have HB := n2_; clear n0_ n1_ n2_; (try clear hb); (try clear hb2); (try clear hk); (try clear hi)) | ((with_reducible refine gate_callee (f := 38) rfl ?_); refine gL 29 Try.func38 #[.slice Ao12 t116.length co12, .slice Ao13 t119.length co13] ?_; (with_reducible refine (fold_Creases.calls k _ _ t116 _ _ t119 t124 t125 _ ?side1 ?side2 ?side3 ?side4 A6.out).mono ?_); (case side1 => exact cl ((Kd.R_reads' HO118.out).2.2)); (case side2 => exact (Kd.R_reads' HO118.out).2.1); (case side3 => exact cl ((Kd.R_reads' HO121.out).2.2)); (case side4 => exact (Kd.R_reads' HO121.out).2.1); rintro e w15 ⟨rfl, hb⟩; refine ⟨_, rfl, ?_⟩; have n0_ := Aside0.mk (Kd.R_below (rl HO118) hb); have n1_ := Aside0.mk (Kd.R_below (rl HO121) hb); have n2_ := Aside0.mk (below_step (bl HB) hb); clear HO118; clear HO121; clear HB; have HO118 := n0_; have HO121 := n1_; have HB := n2_; clear n0_ n1_ n2_; (try clear hb); (try clear hb2); (try clear hk); (try clear hi)) | ((with_reducible refine gate_callee (f := 29) rfl ?_); refine gL 35 Try.func29 #[.slice Ao12 t116.length co12, .slice Ao13 t119.length co13] ?_; (with_reducible refine (fold_Rank.calls _ _ t116 _ _ t119 t126 t127 _ ?side1 ?side2 ?side3 ?side4 A7.out).mono ?_); (case side1 => exact cl ((Kd.R_reads' HO118.out).2.2)); (case side2 => exact (Kd.R_reads' HO118.out).2.1); (case side3 => exact cl ((Kd.R_reads' HO121.out).2.2)); (case side4 => exact (Kd.R_reads' HO121.out).2.1); rintro e w16 ⟨rfl, hb⟩; refine ⟨_, rfl, ?_⟩; have n0_ := Aside0.mk (Kd.R_below (rl HO118) hb); have n1_ := Aside0.mk (Kd.R_below (rl HO121) hb); have n2_ := Aside0.mk (below_step (bl HB) hb); clear HO118; clear HO121; clear HB; have HO118 := n0_; have HO121 := n1_; have HB := n2_; clear n0_ n1_ n2_; (try clear hb); (try clear hb2); (try clear hk); (try clear hi)) | ((with_reducible refine gate_callee (f := 18) rfl ?_); refine gL 39 Try.func18 #[.slice Ao12 t116.length co12] ?_; (with_reducible refine (Gx.gampref01_Strip.calls k _ _ t116 t128 _ ?side1 ?side2 A8.out).mono ?_); (case side1 => exact cl ((Kd.R_reads' HO118.out).2.2)); (case side2 => exact (Kd.R_reads' HO118.out).2.1); rintro e w' ⟨rfl, ⟨nd, rfl⟩⟩; refine ⟨_, rfl, ?_⟩))
 (try simp only [Act.put, List.setIfInBounds_toArray, List.set_cons_zero, List.set_cons_succ])
 go_cut [13] (fun v13 wc => ∃ (kq : Nat) (x13_8 : Int), v13 = .int .i64 x13_8 ∧ Aside0 (gamplaw01_FoldOrders.j0 kq t116 t119 t122 t123 t124 t125 t126 t127 x13_8 = some r) ∧ Aside0 (kq ≤ k) ∧ Aside0 (Kd.R (Kd.int .i64) 3 wc w.heap.size (fun k_ => some k_ ≠ ((.slice Ao13 t119.length co13) : Value).ownBlock) (.slice Ao12 t116.length co12) t116) ∧ Aside0 (Kd.R (Kd.int .i64) 3 wc w.heap.size (fun k_ => some k_ ≠ ((.slice Ao12 t116.length co12) : Value).ownBlock) (.slice Ao13 t119.length co13) t119) ∧ Aside0 (Below w.heap.size w wc))
 case first =>
  have H := HC9.out
  clear HC9
  by_cases c17 : t128 = true
  ·subst c17
   have H1 : ((gampref01_Permutation.f k t119 (t116.length : Int)).bind fun t129 => (if t129 = true then (gamplaw01_FoldOrders.j0 k t116 t119 t122 t123 t124 t125 t126 t127 0) else (gamplaw01_FoldOrders.j0 k t116 t119 t122 t123 t124 t125 t126 t127 2))) = some r := by rw [if_pos rfl] at H; exact H
   clear H
   have H := H1
   clear H1
   replace H := Option.bind_eq_some_iff.mp H
   obtain ⟨t129, A180, H⟩ := H
   replace H : (if t129 = true then (gamplaw01_FoldOrders.j0 k t116 t119 t122 t123 t124 t125 t126 t127 0) else (gamplaw01_FoldOrders.j0 k t116 t119 t122 t123 t124 t125 t126 t127 2)) = some r := H
   have A18 := Aside0.mk A180
   clear A180
   by_cases c19 : t129 = true
   ·subst c19
    have H1 : (gamplaw01_FoldOrders.j0 k t116 t119 t122 t123 t124 t125 t126 t127 0) = some r := by rw [if_pos rfl] at H; exact H
    clear H
    have H := H1
    clear H1
    have H' := Aside0.mk H
    clear H
    go_wp2_with (first | ((with_reducible refine gate_callee (f := 30) rfl ?_); refine gL 44 Try.func30 #[.slice Ao13 t119.length co13, .int .i64 (t116.length : Int)] ?_; (with_reducible refine (gampref01_Permutation.calls k _ _ t119 (t116.length : Int) true _ ?side1 ?side2 A18.out).mono ?_); (case side1 => exact cl ((Kd.R_reads' HO121.out).2.2)); (case side2 => exact (Kd.R_reads' HO121.out).2.1); rintro e w' ⟨rfl, ⟨nd, rfl⟩⟩; refine ⟨_, rfl, ?_⟩))
    go_meet
    case rel => exact ⟨_, (0), (by first | rfl | (simp; done) | (simp [*]; done)), H', ⟨by first | omega | exact Nat.le_refl _⟩, ⟨by (with_reducible repeat (first | apply Kd.R_alloc | apply Kd.R_drewN | apply Kd.R_drew)); exact Kd.R_mono HO118.out (fun _ hk => hk.2)⟩, ⟨by (with_reducible repeat (first | apply Kd.R_alloc | apply Kd.R_drewN | apply Kd.R_drew)); exact Kd.R_mono HO121.out (fun _ hk => hk.2)⟩, ⟨bl HB⟩⟩
   ·replace c19 := Bool.eq_false_iff.mpr c19
    subst c19
    have H1 : (gamplaw01_FoldOrders.j0 k t116 t119 t122 t123 t124 t125 t126 t127 2) = some r := by rw [if_neg (show ¬ (false = true) by decide)] at H; exact H
    clear H
    have H := H1
    clear H1
    have H' := Aside0.mk H
    clear H
    go_wp2_with (first | ((with_reducible refine gate_callee (f := 30) rfl ?_); refine gL 44 Try.func30 #[.slice Ao13 t119.length co13, .int .i64 (t116.length : Int)] ?_; (with_reducible refine (gampref01_Permutation.calls k _ _ t119 (t116.length : Int) false _ ?side1 ?side2 A18.out).mono ?_); (case side1 => exact cl ((Kd.R_reads' HO121.out).2.2)); (case side2 => exact (Kd.R_reads' HO121.out).2.1); rintro e w' ⟨rfl, ⟨nd, rfl⟩⟩; refine ⟨_, rfl, ?_⟩))
    go_meet
    case rel => exact ⟨_, (2), (by first | rfl | (simp; done) | (simp [*]; done)), H', ⟨by first | omega | exact Nat.le_refl _⟩, ⟨by (with_reducible repeat (first | apply Kd.R_alloc | apply Kd.R_drewN | apply Kd.R_drew)); exact Kd.R_mono HO118.out (fun _ hk => hk.2)⟩, ⟨by (with_reducible repeat (first | apply Kd.R_alloc | apply Kd.R_drewN | apply Kd.R_drew)); exact Kd.R_mono HO121.out (fun _ hk => hk.2)⟩, ⟨bl HB⟩⟩
  ·replace c17 := Bool.eq_false_iff.mpr c17
   subst c17
   have H1 : (gamplaw01_FoldOrders.j0 k t116 t119 t122 t123 t124 t125 t126 t127 1) = some r := by rw [if_neg (show ¬ (false = true) by decide)] at H; exact H
   clear H
   have H := H1
   clear H1
   have H' := Aside0.mk H
   clear H
   go_wp2
   go_meet
   case rel => exact ⟨_, (1), (by first | rfl | (simp; done) | (simp [*]; done)), H', ⟨by first | omega | exact Nat.le_refl _⟩, ⟨by (with_reducible repeat (first | apply Kd.R_alloc | apply Kd.R_drewN | apply Kd.R_drew)); exact Kd.R_mono HO118.out (fun _ hk => hk.2)⟩, ⟨by (with_reducible repeat (first | apply Kd.R_alloc | apply Kd.R_drewN | apply Kd.R_drew)); exact Kd.R_mono HO121.out (fun _ hk => hk.2)⟩, ⟨bl HB⟩⟩
 case rest =>
  clear HC9
  try clear c1
  try clear c2
  try clear p2
  try clear c3
  try clear c11
  try clear c15
  try clear c17
  try clear c18
  try clear c19
  obtain ⟨kq, x13_8, rfl, HA, HJ8, HO_5, HO_6, HB⟩ := hcut
  cases kq with
  | zero => exact absurd HA.out (by simp [gamplaw01_FoldOrders.j0])
  | succ kj8 =>
   have H := HA.out
   clear HA
   simp only [gamplaw01_FoldOrders.j0] at H
   by_cases c20 : x13_8 = 0
   ·rw [if_pos c20] at H
    have c20b0 : (x13_8 == 0) = true := beq_iff_eq.mpr c20
    have c20b1 : (x13_8 != 0) = false := bne_eq_false_iff_eq.mpr c20
    clear c20
    replace H := Option.bind_eq_some_iff.mp H
    obtain ⟨t131, A210, H⟩ := H
    replace H : (if (t122 != t131) = true then (gamplaw01_FoldOrders.j1 kj8 t116 t119 t124 t125 t126 t127 t131 true) else (if t123 = 0 then ((gamplaw01_lives.f kj8).bind fun t132 => (gamplaw01_FoldOrders.j1 kj8 t116 t119 t124 t125 t126 t127 t131 (!t132))) else (gamplaw01_FoldOrders.j1 kj8 t116 t119 t124 t125 t126 t127 t131 true))) = some r := H
    have A21 := Aside0.mk A210
    clear A210
    have HC22 := Aside0.mk H
    clear H
    go_upto_region 13 with (first | ((with_reducible refine gate_callee (f := 31) rfl ?_); refine gL 78 Try.func31 #[.slice Ao12 t116.length co12, .slice Ao13 t119.length co13, .bool false] ?_; (with_reducible refine (Gx.gampref01_Folds.calls kj8 _ _ t116 _ _ t119 false t131 _ ?side1 ?side2 ?side3 ?side4 A21.out).mono ?_); (case side1 => exact cl ((Kd.R_reads' HO_5.out).2.2)); (case side2 => exact (Kd.R_reads' HO_5.out).2.1); (case side3 => exact cl ((Kd.R_reads' HO_6.out).2.2)); (case side4 => exact (Kd.R_reads' HO_6.out).2.1); rintro e w23 ⟨rfl, hb⟩; refine ⟨_, rfl, ?_⟩; have n0_ := Aside0.mk (Kd.R_below (rl HO_5) hb); have n1_ := Aside0.mk (Kd.R_below (rl HO_6) hb); have n2_ := Aside0.mk (below_step (bl HB) hb); clear HO_5; clear HO_6; clear HB; have HO_5 := n0_; have HO_6 := n1_; have HB := n2_; clear n0_ n1_ n2_; (try clear hb); (try clear hb2); (try clear hk); (try clear hi)))
    (try simp only [Act.put, List.setIfInBounds_toArray, List.set_cons_zero, List.set_cons_succ])
    go_cut [89] (fun v89 wc => ∃ (kq : Nat) (x89_21 : Bool), v89 = .bool x89_21 ∧ Aside0 (gamplaw01_FoldOrders.j1 kq t116 t119 t124 t125 t126 t127 t131 x89_21 = some r) ∧ Aside0 (kq ≤ kj8) ∧ Aside0 (Kd.R (Kd.int .i64) 3 wc w.heap.size (fun k_ => some k_ ≠ ((.slice Ao13 t119.length co13) : Value).ownBlock) (.slice Ao12 t116.length co12) t116) ∧ Aside0 (Kd.R (Kd.int .i64) 3 wc w.heap.size (fun k_ => some k_ ≠ ((.slice Ao12 t116.length co12) : Value).ownBlock) (.slice Ao13 t119.length co13) t119) ∧ Aside0 (Below w.heap.size w wc))
    case first =>
     have H := HC22.out
     clear HC22
     by_cases c24 : (t122 != t131) = true
     ·rw [if_pos c24] at H
      have c24b0 : (t122 != t131) = true := c24
      (try (have c24b1 : decide (t122 = t131) = false := by simpa using c24))
      (try (have c24b2 : (t122 == t131) = false := by simpa using c24))
      (try (have c24b3 : ¬ (t122 = t131) := by simpa using c24))
      clear c24
      (first | rw [c24b0] | (simp only [i64_w, i32_w]; rw [c24b0]) | skip)
      have H' := Aside0.mk H
      clear H
      go_wp2
      go_meet
      case rel => exact ⟨_, (true), (by first | rfl | (simp; done) | (simp [*]; done)), H', ⟨by have := HJ8.out; first | omega | exact Nat.le_refl _⟩, ⟨rl HO_5⟩, ⟨rl HO_6⟩, ⟨bl HB⟩⟩
     ·rw [if_neg c24] at H
      have c24b0 : (t122 != t131) = false := by simpa using c24
      (try (have c24b1 : decide (t122 = t131) = true := by simpa using c24))
      (try (have c24b2 : (t122 == t131) = true := by simpa using c24))
      clear c24
      (first | rw [c24b0] | (simp only [i64_w, i32_w]; rw [c24b0]) | skip)
      by_cases c25 : t123 = 0
      ·rw [if_pos c25] at H
       have c25b0 : (t123 == 0) = true := beq_iff_eq.mpr c25
       have c25b1 : (t123 != 0) = false := bne_eq_false_iff_eq.mpr c25
       clear c25
       replace H := Option.bind_eq_some_iff.mp H
       obtain ⟨t132, A260, H⟩ := H
       replace H : (gamplaw01_FoldOrders.j1 kj8 t116 t119 t124 t125 t126 t127 t131 (!t132)) = some r := H
       have A26 := Aside0.mk A260
       clear A260
       have H' := Aside0.mk H
       clear H
       go_wp2_with (first | (go_at_call 20; (with_reducible refine (gamplaw01_lives.calls kj8  t132 _ A26.out).mono ?_); rintro e w27 ⟨rfl, hb⟩; have n0_ := Aside0.mk (Kd.R_below (rl HO_5) hb); have n1_ := Aside0.mk (Kd.R_below (rl HO_6) hb); have n2_ := Aside0.mk (below_step (bl HB) hb); clear HO_5; clear HO_6; clear HB; have HO_5 := n0_; have HO_6 := n1_; have HB := n2_; clear n0_ n1_ n2_; (try clear hb); (try clear hb2); (try clear hk); (try clear hi)))
       go_meet
       case rel => exact ⟨_, (!t132), (by first | rfl | (simp; done) | (simp [*]; done)), H', ⟨by have := HJ8.out; first | omega | exact Nat.le_refl _⟩, ⟨rl HO_5⟩, ⟨rl HO_6⟩, ⟨bl HB⟩⟩
      ·rw [if_neg c25] at H
       have c25b0 : (t123 == 0) = false := beq_eq_false_iff_ne.mpr c25
       have c25b1 : (t123 != 0) = true := bne_iff_ne.mpr c25
       have H' := Aside0.mk H
       clear H
       go_wp2
       go_meet
       case rel => exact ⟨_, (true), (by first | rfl | (simp; done) | (simp [*]; done)), H', ⟨by have := HJ8.out; first | omega | exact Nat.le_refl _⟩, ⟨rl HO_5⟩, ⟨rl HO_6⟩, ⟨bl HB⟩⟩
    case rest =>
     clear HC22
     try clear c1
     try clear c2
     try clear p2
     try clear c3
     try clear c11
     try clear c15
     try clear c17
     try clear c18
     try clear c19
     try clear c20
     try clear c20b0
     try clear c20b1
     try clear c24
     try clear c24b0
     try clear c24b1
     try clear c24b2
     try clear c25
     try clear c25b0
     try clear c25b1
     try clear p2
     obtain ⟨kq, x89_21, rfl, HA, HJ21, HO_5, HO_6, HB⟩ := hcut
     cases kq with
     | zero => exact absurd HA.out (by simp [gamplaw01_FoldOrders.j1])
     | succ kj21 =>
      have H := HA.out
      clear HA
      simp only [gamplaw01_FoldOrders.j1] at H
      by_cases c28 : x89_21 = true
      ·subst c28
       have H1 : (some false) = some r := by rw [if_pos rfl] at H; exact H
       clear H
       have H := H1
       clear H1
       rw [hrt] at H
       cases H
      ·replace c28 := Bool.eq_false_iff.mpr c28
       subst c28
       have H1 : (if t131 = true then ((Gx.gampref01_All.f kj21 t116 false).bind fun t133 => ((gampref01_Letters.f kj21 t116 t119 false).bind fun t136 => (if t124.toList = t136.toList then (if t125 = 0 then (if t127 = 0 then (if t126 ≥ 0 then (if t126 < (t133.length : Int) then (if 0 ≤ t126 then ((Gx.gampref01_Same.f kj21 (rd_L3 t133 t126) t119).bind fun t138 => (some t138)) else (none)) else (some false)) else (some false)) else (some false)) else (some false)) else (some false)))) else (if t124.toList = ([] : List UInt8) then (if t125 = 5 then (if t126 = 0 then (some (t127 == 5)) else (some false)) else (some false)) else (some false))) = some r := by rw [if_neg (show ¬ (false = true) by decide)] at H; exact H
       clear H
       have H := H1
       clear H1
       by_cases c29 : t131 = true
       ·subst c29
        have H1 : ((Gx.gampref01_All.f kj21 t116 false).bind fun t133 => ((gampref01_Letters.f kj21 t116 t119 false).bind fun t136 => (if t124.toList = t136.toList then (if t125 = 0 then (if t127 = 0 then (if t126 ≥ 0 then (if t126 < (t133.length : Int) then (if 0 ≤ t126 then ((Gx.gampref01_Same.f kj21 (rd_L3 t133 t126) t119).bind fun t138 => (some t138)) else (none)) else (some false)) else (some false)) else (some false)) else (some false)) else (some false)))) = some r := by rw [if_pos rfl] at H; exact H
        clear H
        have H := H1
        clear H1
        replace H := Option.bind_eq_some_iff.mp H
        obtain ⟨t133, A300, H⟩ := H
        replace H : ((gampref01_Letters.f kj21 t116 t119 false).bind fun t136 => (if t124.toList = t136.toList then (if t125 = 0 then (if t127 = 0 then (if t126 ≥ 0 then (if t126 < (t133.length : Int) then (if 0 ≤ t126 then ((Gx.gampref01_Same.f kj21 (rd_L3 t133 t126) t119).bind fun t138 => (some t138)) else (none)) else (some false)) else (some false)) else (some false)) else (some false)) else (some false))) = some r := H
        have A30 := Aside0.mk A300
        clear A300
        replace H := Option.bind_eq_some_iff.mp H
        obtain ⟨t136, A310, H⟩ := H
        replace H : (if t124.toList = t136.toList then (if t125 = 0 then (if t127 = 0 then (if t126 ≥ 0 then (if t126 < (t133.length : Int) then (if 0 ≤ t126 then ((Gx.gampref01_Same.f kj21 (rd_L3 t133 t126) t119).bind fun t138 => (some t138)) else (none)) else (some false)) else (some false)) else (some false)) else (some false)) else (some false)) = some r := H
        have A31 := Aside0.mk A310
        clear A310
        by_cases c32 : t124.toList = t136.toList
        ·rw [if_pos c32] at H
         have c32b0 : (t124.toList == t136.toList) = true := beq_iff_eq.mpr c32
         have c32b1 : (t124.toList != t136.toList) = false := bne_eq_false_iff_eq.mpr c32
         clear c32
         by_cases c33 : t125 = 0
         ·rw [if_pos c33] at H
          have c33b0 : (t125 == 0) = true := beq_iff_eq.mpr c33
          have c33b1 : (t125 != 0) = false := bne_eq_false_iff_eq.mpr c33
          clear c33
          by_cases c34 : t127 = 0
          ·rw [if_pos c34] at H
           have c34b0 : (t127 == 0) = true := beq_iff_eq.mpr c34
           have c34b1 : (t127 != 0) = false := bne_eq_false_iff_eq.mpr c34
           clear c34
           by_cases c35 : t126 ≥ 0
           ·rw [if_pos c35] at H
            have c35b0 : decide (0 ≤ t126) = true := decide_eq_true c35
            clear c35
            by_cases c36 : t126 < (t133.length : Int)
            ·rw [if_pos c36] at H
             have c36b0 : decide (t126 < (t133.length : Int)) = true := decide_eq_true c36
             clear c36
             by_cases c37 : 0 ≤ t126
             ·rw [if_pos c37] at H
              have c37b0 : decide (0 ≤ t126) = true := decide_eq_true c37
              clear c37
              replace H := Option.bind_eq_some_iff.mp H
              obtain ⟨t138, A380, H⟩ := H
              replace H : (some t138) = some r := H
              have A38 := Aside0.mk A380
              clear A380
              obtain rfl := Option.some.inj H
              go_wp2_with (first | ((with_reducible refine gate_callee (f := 27) rfl ?_); refine gL 107 Try.func27 #[.slice Ao12 t116.length co12, .bool false] ?_; (with_reducible refine (Gx.gampref01_All.calls kj21 _ _ t116 false t133 _ ?side1 ?side2 A30.out).mono ?_); (case side1 => exact cl ((Kd.R_reads' HO_5.out).2.2)); (case side2 => exact (Kd.R_reads' HO_5.out).2.1); rintro e w39 ⟨v134, rfl, ho0, hb⟩; refine ⟨_, rfl, ?_⟩; have n0_ := Aside0.mk (Kd.R_below (rl HO_5) hb); have n1_ := Aside0.mk (Kd.R_below (rl HO_6) hb); have n2_ := Aside0.mk ho0; have n3_ := Aside0.mk (below_step (bl HB) hb); clear HO_5; clear HO_6; clear HB; have HO_5 := n0_; have HO_6 := n1_; have HO135 := n2_; have HB := n3_; clear n0_ n1_ n2_ n3_; (try clear hb); (try clear hb2); (try clear hk); (try clear hi); (try clear ho0)) | ((with_reducible refine gate_callee (f := 35) rfl ?_); refine gL 111 Try.func35 #[.slice Ao12 t116.length co12, .slice Ao13 t119.length co13, .bool false] ?_; (with_reducible refine (gampref01_Letters.calls kj21 _ _ t116 _ _ t119 false t136 _ ?side1 ?side2 ?side3 ?side4 A31.out).mono ?_); (case side1 => exact cl ((Kd.R_reads' HO_5.out).2.2)); (case side2 => exact (Kd.R_reads' HO_5.out).2.1); (case side3 => exact cl ((Kd.R_reads' HO_6.out).2.2)); (case side4 => exact (Kd.R_reads' HO_6.out).2.1); rintro e w40 ⟨rfl, hb⟩; refine ⟨_, rfl, ?_⟩; have n0_ := Aside0.mk (Kd.R_below (rl HO_5) hb); have n1_ := Aside0.mk (Kd.R_below (rl HO_6) hb); have n2_ := Aside0.mk (Kd.N_below (by (with_reducible repeat (first | apply Kd.N_alloc | apply Kd.N_drewN | apply Kd.N_drew)); exact HO135.out) hb); have n3_ := Aside0.mk (below_step (bl HB) hb); clear HO_5; clear HO_6; clear HO135; clear HB; have HO_5 := n0_; have HO_6 := n1_; have HO135 := n2_; have HB := n3_; clear n0_ n1_ n2_ n3_; (try clear hb); (try clear hb2); (try clear hk); (try clear hi); obtain ⟨Ao41, co41, eo41⟩ := Kd.N_slice HO135.out; subst eo41; have p137 : 0 ≤ (t126 : Int) := ofd; have q137 : t126 < (t133.length : Int) := ofd; obtain ⟨ad137, A137_0, c137_0, e137, hx137_0, hl137_0, hi137_0⟩ := at_L3 (Kd.N_reads' HO135.out).2.2 t126 p137 q137; cases e137; have HR137_0 := Aside0.mk hi137_0; have HC137_0 := Aside0.mk hl137_0; clear hi137_0 hl137_0; replace p137 := eq_true p137; replace q137 := eq_true q137) | (go_at_call 22; (with_reducible refine (Gx.gampref01_Same.calls kj21 _ _ (rd_L3 t133 t126) _ _ t119 t138 _ ?side1 ?side2 ?side3 ?side4 A38.out).mono ?_); (case side1 => exact cl (HR137_0.out)); (case side2 => exact HC137_0.out); (case side3 => exact cl ((Kd.R_reads' HO_6.out).2.2)); (case side4 => exact (Kd.R_reads' HO_6.out).2.1); rintro e w' ⟨rfl, ⟨nd, rfl⟩⟩))
              go_ret
              exact ⟨by first | rfl | (simp [errW_none, errW_some] <;> rfl) | (simp [*, errW_none, errW_some] <;> rfl), by repeat (first | (with_reducible first | exact HB.out | apply below_alloc | apply pw_below_drewN | apply below_drew1) | exact HB.out)⟩
             ·rw [if_neg c37] at H
              exact absurd H (by simp)
            ·rw [if_neg c36] at H
             have c36b0 : decide (t126 < (t133.length : Int)) = false := decide_eq_false c36
             clear c36
             rw [hrt] at H
             cases H
           ·rw [if_neg c35] at H
            have c35b0 : decide (0 ≤ t126) = false := decide_eq_false c35
            clear c35
            rw [hrt] at H
            cases H
          ·rw [if_neg c34] at H
           have c34b0 : (t127 == 0) = false := beq_eq_false_iff_ne.mpr c34
           have c34b1 : (t127 != 0) = true := bne_iff_ne.mpr c34
           rw [hrt] at H
           cases H
         ·rw [if_neg c33] at H
          have c33b0 : (t125 == 0) = false := beq_eq_false_iff_ne.mpr c33
          have c33b1 : (t125 != 0) = true := bne_iff_ne.mpr c33
          rw [hrt] at H
          cases H
        ·rw [if_neg c32] at H
         have c32b0 : (t124.toList == t136.toList) = false := beq_eq_false_iff_ne.mpr c32
         have c32b1 : (t124.toList != t136.toList) = true := bne_iff_ne.mpr c32
         rw [hrt] at H
         cases H
       ·replace c29 := Bool.eq_false_iff.mpr c29
        subst c29
        have H1 : (if t124.toList = ([] : List UInt8) then (if t125 = 5 then (if t126 = 0 then (some (t127 == 5)) else (some false)) else (some false)) else (some false)) = some r := by rw [if_neg (show ¬ (false = true) by decide)] at H; exact H
        clear H
        have H := H1
        clear H1
        by_cases c53 : t124.toList = ([] : List UInt8)
        ·rw [if_pos c53] at H
         have c53b0 : (t124.toList == ([] : List UInt8)) = true := beq_iff_eq.mpr c53
         have c53b1 : (t124.toList != ([] : List UInt8)) = false := bne_eq_false_iff_eq.mpr c53
         clear c53
         by_cases c54 : t125 = 5
         ·rw [if_pos c54] at H
          have c54b0 : (t125 == 5) = true := beq_iff_eq.mpr c54
          have c54b1 : (t125 != 5) = false := bne_eq_false_iff_eq.mpr c54
          clear c54
          by_cases c55 : t126 = 0
          ·rw [if_pos c55] at H
           have c55b0 : (t126 == 0) = true := beq_iff_eq.mpr c55
           have c55b1 : (t126 != 0) = false := bne_eq_false_iff_eq.mpr c55
           clear c55
           obtain rfl := Option.some.inj H
           go_wp2
           go_ret
           exact ⟨by first | rfl | (simp [errW_none, errW_some] <;> rfl) | (simp [*, errW_none, errW_some] <;> rfl), by repeat (first | (with_reducible first | exact HB.out | apply below_alloc | apply pw_below_drewN | apply below_drew1) | exact HB.out)⟩
          ·rw [if_neg c55] at H
           have c55b0 : (t126 == 0) = false := beq_eq_false_iff_ne.mpr c55
           have c55b1 : (t126 != 0) = true := bne_iff_ne.mpr c55
           rw [hrt] at H
           cases H
         ·rw [if_neg c54] at H
          have c54b0 : (t125 == 5) = false := beq_eq_false_iff_ne.mpr c54
          have c54b1 : (t125 != 5) = true := bne_iff_ne.mpr c54
          rw [hrt] at H
          cases H
        ·rw [if_neg c53] at H
         have c53b0 : (t124.toList == ([] : List UInt8)) = false := beq_eq_false_iff_ne.mpr c53
         have c53b1 : (t124.toList != ([] : List UInt8)) = true := bne_iff_ne.mpr c53
         rw [hrt] at H
         cases H
   ·rw [if_neg c20] at H
    have c20b0 : (x13_8 == 0) = false := beq_eq_false_iff_ne.mpr c20
    have c20b1 : (x13_8 != 0) = true := bne_iff_ne.mpr c20
    by_cases c56 : t122 = true
    ·subst c56
     have H1 : (some false) = some r := by rw [if_pos rfl] at H; exact H
     clear H
     have H := H1
     clear H1
     rw [hrt] at H
     cases H
    ·replace c56 := Bool.eq_false_iff.mpr c56
     subst c56
     have H1 : (if t123 = x13_8 then (if t124.toList = ([] : List UInt8) then (if t125 = x13_8 then (if t126 = 0 then (if t127 = x13_8 then ((gamplaw01_lives.f kj8).bind fun t130 => (some t130)) else (some false)) else (some false)) else (some false)) else (some false)) else (some false)) = some r := by rw [if_neg (show ¬ (false = true) by decide)] at H; exact H
     clear H
     have H := H1
     clear H1
     by_cases c57 : t123 = x13_8
     ·rw [if_pos c57] at H
      have c57b0 : (t123 == x13_8) = true := beq_iff_eq.mpr c57
      have c57b1 : (t123 != x13_8) = false := bne_eq_false_iff_eq.mpr c57
      clear c57
      by_cases c58 : t124.toList = ([] : List UInt8)
      ·rw [if_pos c58] at H
       have c58b0 : (t124.toList == ([] : List UInt8)) = true := beq_iff_eq.mpr c58
       have c58b1 : (t124.toList != ([] : List UInt8)) = false := bne_eq_false_iff_eq.mpr c58
       clear c58
       by_cases c59 : t125 = x13_8
       ·rw [if_pos c59] at H
        have c59b0 : (t125 == x13_8) = true := beq_iff_eq.mpr c59
        have c59b1 : (t125 != x13_8) = false := bne_eq_false_iff_eq.mpr c59
        clear c59
        by_cases c60 : t126 = 0
        ·rw [if_pos c60] at H
         have c60b0 : (t126 == 0) = true := beq_iff_eq.mpr c60
         have c60b1 : (t126 != 0) = false := bne_eq_false_iff_eq.mpr c60
         clear c60
         by_cases c61 : t127 = x13_8
         ·rw [if_pos c61] at H
          have c61b0 : (t127 == x13_8) = true := beq_iff_eq.mpr c61
          have c61b1 : (t127 != x13_8) = false := bne_eq_false_iff_eq.mpr c61
          clear c61
          replace H := Option.bind_eq_some_iff.mp H
          obtain ⟨t130, A620, H⟩ := H
          replace H : (some t130) = some r := H
          have A62 := Aside0.mk A620
          clear A620
          obtain rfl := Option.some.inj H
          go_wp2_with (first | (go_at_call 20; (with_reducible refine (gamplaw01_lives.calls kj8  t130 _ A62.out).mono ?_); rintro e w63 ⟨rfl, hb⟩; have n0_ := Aside0.mk (Kd.R_below (rl HO_5) hb); have n1_ := Aside0.mk (Kd.R_below (rl HO_6) hb); have n2_ := Aside0.mk (below_step (bl HB) hb); clear HO_5; clear HO_6; clear HB; have HO_5 := n0_; have HO_6 := n1_; have HB := n2_; clear n0_ n1_ n2_; (try clear hb); (try clear hb2); (try clear hk); (try clear hi)))
          go_ret
          exact ⟨by first | rfl | (simp [errW_none, errW_some] <;> rfl) | (simp [*, errW_none, errW_some] <;> rfl), by repeat (first | (with_reducible first | exact HB.out | apply below_alloc | apply pw_below_drewN | apply below_drew1) | exact HB.out)⟩
         ·rw [if_neg c61] at H
          have c61b0 : (t127 == x13_8) = false := beq_eq_false_iff_ne.mpr c61
          have c61b1 : (t127 != x13_8) = true := bne_iff_ne.mpr c61
          rw [hrt] at H
          cases H
        ·rw [if_neg c60] at H
         have c60b0 : (t126 == 0) = false := beq_eq_false_iff_ne.mpr c60
         have c60b1 : (t126 != 0) = true := bne_iff_ne.mpr c60
         rw [hrt] at H
         cases H
       ·rw [if_neg c59] at H
        have c59b0 : (t125 == x13_8) = false := beq_eq_false_iff_ne.mpr c59
        have c59b1 : (t125 != x13_8) = true := bne_iff_ne.mpr c59
        rw [hrt] at H
        cases H
      ·rw [if_neg c58] at H
       have c58b0 : (t124.toList == ([] : List UInt8)) = false := beq_eq_false_iff_ne.mpr c58
       have c58b1 : (t124.toList != ([] : List UInt8)) = true := bne_iff_ne.mpr c58
       rw [hrt] at H
       cases H
     ·rw [if_neg c57] at H
      have c57b0 : (t123 == x13_8) = false := beq_eq_false_iff_ne.mpr c57
      have c57b1 : (t123 != x13_8) = true := bne_iff_ne.mpr c57
      rw [hrt] at H
      cases H
/-- THE ONE PURE STATEMENT of gamplaw01_FoldOrders: yours. -/
def gamplaw01_FoldOrders.Pure : Prop := ∀ (l0 : List Int) (l1 : List Int), l0.length ≤ maxLen → l0.length * 8 ≤ 140737488351232 → (∀ x ∈ l0, (Lit.int .i64 x).wf = true) → l1.length ≤ maxLen → l1.length * 8 ≤ 140737488351232 → (∀ x ∈ l1, (Lit.int .i64 x).wf = true) → ∃ k, gamplaw01_FoldOrders.f k l0 l1 = some true
theorem gamplaw01_FoldOrders.walk (P : gamplaw01_FoldOrders.Pure) (a0 : Option Addr) (len0 cap0 : Nat) (z0 : List Int) (a1 : Option Addr) (len1 cap1 : Nat) (z1 : List Int) (w : World) (w0 : (a0 = none ∧ len0 = 0 ∧ cap0 = 0 ∧ z0 = []) ∨ ∃ x, a0 = some x ∧ len0 ≤ cap0 ∧ cap0 ≤ maxLen ∧ z0.length = cap0 ∧ (∀ i, i < z0.length → w.cell? (x.add i) = some (.int .i64 (z0.getD i 0))) ∧ ∀ n ∈ z0, (Lit.int .i64 n).wf = true) (y0 : len0 * 8 ≤ 140737488351232) (w1 : (a1 = none ∧ len1 = 0 ∧ cap1 = 0 ∧ z1 = []) ∨ ∃ x, a1 = some x ∧ len1 ≤ cap1 ∧ cap1 ≤ maxLen ∧ z1.length = cap1 ∧ (∀ i, i < z1.length → w.cell? (x.add i) = some (.int .i64 (z1.getD i 0))) ∧ ∀ n ∈ z1, (Lit.int .i64 n).wf = true) (y1 : len1 * 8 ≤ 140737488351232) :
  Calls Try.prog 11 #[.slice a0 len0 cap0, .slice a1 len1 cap1] w fun e w' => e = .returned (.bool true) ∧ Below w.heap.size w w' := by
 obtain ⟨l0, rfl, hr0, hm0, hw0, hc0⟩ := ReadsInt.ofRowC w0
 obtain ⟨l1, rfl, hr1, hm1, hw1, hc1⟩ := ReadsInt.ofRowC w1
 obtain ⟨k, h⟩ := P l0 l1 hm0 y0 hw0 hm1 y1 hw1
 refine (gamplaw01_FoldOrders.calls k _ _ l0 _ _ l1 true w (Kd.C_of_reads (d := (0 : Int)) (h1 := fun _ => rfl) hr0) hc0 (Kd.C_of_reads (d := (0 : Int)) (h1 := fun _ => rfl) hr1) hc1 h rfl).mono ?_
 rintro e w' ⟨rfl, hd⟩
 exact ⟨rfl, hd⟩
end Go.Proofs.Ytiknnpfdpecfdaa.Ox

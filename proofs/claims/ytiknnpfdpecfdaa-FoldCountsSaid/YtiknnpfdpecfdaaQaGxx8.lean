/- The declarations of Gxx8 that the claim Qa needs. -/
import Derived.Test.YtiknnpfdpecfdaaQaTkP
import Derived.Test.YtiknnpfdpecfdaaQaGxx0
import Derived.Test.YtiknnpfdpecfdaaQaGxx1
import Derived.Test.YtiknnpfdpecfdaaQaZ1
import Derived.Test.YtiknnpfdpecfdaaQaGxx7
namespace Go.Proofs.Ytiknnpfdpecfdaa.Gx
open Go.RowKit Go.Proofs.Ytiknnpfdpecfdaa.Own Go.Proofs.Ytiknnpfdpecfdaa.Fey Go.Proofs.Ytiknnpfdpecfdaa.Fe Go.Proofs.YtiknnpfdpecfdaaW.PrintWords Go.Proofs.YtiknnpfdpecfdaaW.PrintLast Go.Proofs.YtiknnpfdpecfdaaW.PrintMore
attribute [local go_sem] max2_int min2_int max_two min_two max_three min_three max_four min_four
set_option linter.unusedVariables false
set_option linter.unusedSimpArgs false
def gamplaw01_FoldCounts.j0 : Nat → Int → List Int → Int → List (List Int) → Bool → Option (Bool)
  | 0, _, _, _, _, _ => none
  | k + 1, x1, x8, x9, x10, x58 => if x58 = true then (some false) else (if x1 < 0 then (if (x8.length : Int) = 0 then (some (x9 == 5)) else (some false)) else (if x1 ≥ (x10.length : Int) then (if (x8.length : Int) = 0 then (some (x9 == 5)) else (some false)) else (if 0 ≤ x1 then (if x1 < (x10.length : Int) then ((gampref01_Same.f k x8 (rd_L1 x10 x1)).bind fun t336 => (if t336 = true then (some (x9 == 0)) else (some false))) else (none)) else (none))))
def gamplaw01_FoldCounts.f (k : Nat) (l0 : List Int) (a1 : Int) : Option (Bool) := (gamplaw01_cut.f l0 6 9).bind fun t320 => ((fold_Count.f t320).bind fun bt323 => ((fold_At.f t320 a1).bind fun bt325 => ((gampref01_Strip.f k t320).bind fun t329 => (if t329 = true then ((gampref01_All.f k t320 false).bind fun t331 => (if bt323.1 = (t331.length : Int) then (if bt323.2 = 0 then ((gamplaw01_lives.f k).bind fun t334 => (gamplaw01_FoldCounts.j0 k a1 bt325.1 bt325.2 t331 (!t334))) else (gamplaw01_FoldCounts.j0 k a1 bt325.1 bt325.2 t331 true)) else (gamplaw01_FoldCounts.j0 k a1 bt325.1 bt325.2 t331 true))) else (if bt323.1 = 0 then (if bt323.2 = 1 then (if (bt325.1.length : Int) = 0 then (if bt325.2 = 1 then ((gamplaw01_lives.f k).bind fun t330 => (some t330)) else (some false)) else (some false)) else (some false)) else (some false))))))
set_option maxHeartbeats 8000000 in
set_option maxRecDepth 100000 in
theorem gamplaw01_FoldCounts.calls (k : Nat) (A0 : Option Addr) (c0 : Nat) (l0 : List Int) (a1 : Int) (r : Bool) (w : World) (hr0 : Kd.C (Kd.int .i64) w A0 l0.length l0) (hc0 : l0.length ≤ c0) (h : gamplaw01_FoldCounts.f k l0 a1 = some r) (hrt : r = true) :
  Calls Try.prog 5 #[.slice A0 l0.length c0, .int .i64 a1] w fun e w' => e = .returned (.bool r) ∧ Below w.heap.size w w' := by
 have HR0 := Aside0.mk hr0
 have HC0 := Aside0.mk hc0
 clear hr0 hc0
 have HB := Aside0.mk (Below.refl w.heap.size w)
 have H : ((gamplaw01_cut.f l0 6 9).bind fun t320 => ((fold_Count.f t320).bind fun bt323 => ((fold_At.f t320 a1).bind fun bt325 => ((gampref01_Strip.f k t320).bind fun t329 => (if t329 = true then ((gampref01_All.f k t320 false).bind fun t331 => (if bt323.1 = (t331.length : Int) then (if bt323.2 = 0 then ((gamplaw01_lives.f k).bind fun t334 => (gamplaw01_FoldCounts.j0 k a1 bt325.1 bt325.2 t331 (!t334))) else (gamplaw01_FoldCounts.j0 k a1 bt325.1 bt325.2 t331 true)) else (gamplaw01_FoldCounts.j0 k a1 bt325.1 bt325.2 t331 true))) else (if bt323.1 = 0 then (if bt323.2 = 1 then (if (bt325.1.length : Int) = 0 then (if bt325.2 = 1 then ((gamplaw01_lives.f k).bind fun t330 => (some t330)) else (some false)) else (some false)) else (some false)) else (some false))))))) = some r := h
 clear h
 replace H := Option.bind_eq_some_iff.mp H
 obtain ⟨t320, A30, H⟩ := H
 replace H : ((fold_Count.f t320).bind fun bt323 => ((fold_At.f t320 a1).bind fun bt325 => ((gampref01_Strip.f k t320).bind fun t329 => (if t329 = true then ((gampref01_All.f k t320 false).bind fun t331 => (if bt323.1 = (t331.length : Int) then (if bt323.2 = 0 then ((gamplaw01_lives.f k).bind fun t334 => (gamplaw01_FoldCounts.j0 k a1 bt325.1 bt325.2 t331 (!t334))) else (gamplaw01_FoldCounts.j0 k a1 bt325.1 bt325.2 t331 true)) else (gamplaw01_FoldCounts.j0 k a1 bt325.1 bt325.2 t331 true))) else (if bt323.1 = 0 then (if bt323.2 = 1 then (if (bt325.1.length : Int) = 0 then (if bt325.2 = 1 then ((gamplaw01_lives.f k).bind fun t330 => (some t330)) else (some false)) else (some false)) else (some false)) else (some false)))))) = some r := H
 have A3 := Aside0.mk A30
 clear A30
 replace H := Option.bind_eq_some_iff.mp H
 obtain ⟨⟨t323, t324⟩, A40, H⟩ := H
 replace H : ((fold_At.f t320 a1).bind fun bt325 => ((gampref01_Strip.f k t320).bind fun t329 => (if t329 = true then ((gampref01_All.f k t320 false).bind fun t331 => (if t323 = (t331.length : Int) then (if t324 = 0 then ((gamplaw01_lives.f k).bind fun t334 => (gamplaw01_FoldCounts.j0 k a1 bt325.1 bt325.2 t331 (!t334))) else (gamplaw01_FoldCounts.j0 k a1 bt325.1 bt325.2 t331 true)) else (gamplaw01_FoldCounts.j0 k a1 bt325.1 bt325.2 t331 true))) else (if t323 = 0 then (if t324 = 1 then (if (bt325.1.length : Int) = 0 then (if bt325.2 = 1 then ((gamplaw01_lives.f k).bind fun t330 => (some t330)) else (some false)) else (some false)) else (some false)) else (some false))))) = some r := H
 have A4 := Aside0.mk A40
 clear A40
 replace H := Option.bind_eq_some_iff.mp H
 obtain ⟨⟨t325, t326⟩, A50, H⟩ := H
 replace H : ((gampref01_Strip.f k t320).bind fun t329 => (if t329 = true then ((gampref01_All.f k t320 false).bind fun t331 => (if t323 = (t331.length : Int) then (if t324 = 0 then ((gamplaw01_lives.f k).bind fun t334 => (gamplaw01_FoldCounts.j0 k a1 t325 t326 t331 (!t334))) else (gamplaw01_FoldCounts.j0 k a1 t325 t326 t331 true)) else (gamplaw01_FoldCounts.j0 k a1 t325 t326 t331 true))) else (if t323 = 0 then (if t324 = 1 then (if (t325.length : Int) = 0 then (if t326 = 1 then ((gamplaw01_lives.f k).bind fun t330 => (some t330)) else (some false)) else (some false)) else (some false)) else (some false)))) = some r := H
 have A5 := Aside0.mk A50
 clear A50
 replace H := Option.bind_eq_some_iff.mp H
 obtain ⟨t329, A60, H⟩ := H
 replace H : (if t329 = true then ((gampref01_All.f k t320 false).bind fun t331 => (if t323 = (t331.length : Int) then (if t324 = 0 then ((gamplaw01_lives.f k).bind fun t334 => (gamplaw01_FoldCounts.j0 k a1 t325 t326 t331 (!t334))) else (gamplaw01_FoldCounts.j0 k a1 t325 t326 t331 true)) else (gamplaw01_FoldCounts.j0 k a1 t325 t326 t331 true))) else (if t323 = 0 then (if t324 = 1 then (if (t325.length : Int) = 0 then (if t326 = 1 then ((gamplaw01_lives.f k).bind fun t330 => (some t330)) else (some false)) else (some false)) else (some false)) else (some false))) = some r := H
 have A6 := Aside0.mk A60
 clear A60
 by_cases c7 : t329 = true
 ·subst c7
  have H1 : ((gampref01_All.f k t320 false).bind fun t331 => (if t323 = (t331.length : Int) then (if t324 = 0 then ((gamplaw01_lives.f k).bind fun t334 => (gamplaw01_FoldCounts.j0 k a1 t325 t326 t331 (!t334))) else (gamplaw01_FoldCounts.j0 k a1 t325 t326 t331 true)) else (gamplaw01_FoldCounts.j0 k a1 t325 t326 t331 true))) = some r := by rw [if_pos rfl] at H; exact H
  clear H
  have H := H1
  clear H1
  replace H := Option.bind_eq_some_iff.mp H
  obtain ⟨t331, A80, H⟩ := H
  replace H : (if t323 = (t331.length : Int) then (if t324 = 0 then ((gamplaw01_lives.f k).bind fun t334 => (gamplaw01_FoldCounts.j0 k a1 t325 t326 t331 (!t334))) else (gamplaw01_FoldCounts.j0 k a1 t325 t326 t331 true)) else (gamplaw01_FoldCounts.j0 k a1 t325 t326 t331 true)) = some r := H
  have A8 := Aside0.mk A80
  clear A80
  have HC9 := Aside0.mk H
  clear H
  go_enter Try.func5, Try.ntmps5
  go_upto_region 7 with (first | ((with_reducible refine gate_callee (f := 15) rfl ?_); refine gL 12 Try.func15 #[.slice A0 l0.length c0, .int .i64 6, .int .i64 9] ?_; (with_reducible refine (gamplaw01_cut.calls _ _ l0 6 9 t320 _ ?side1 ?side2 A3.out).mono ?_); (case side1 => exact cl (HR0.out)); (case side2 => exact HC0.out); rintro e w10 ⟨v321, rfl, ho0, hb⟩; refine ⟨_, rfl, ?_⟩; have n0_ := Aside0.mk (Kd.R_lower ho0 (below_size (bl HB))); have n1_ := Aside0.mk (below_step (bl HB) hb); clear HB; have HO322 := n0_; have HB := n1_; clear n0_ n1_; (try clear hb); (try clear hb2); (try clear hk); (try clear hi); (try clear ho0); obtain ⟨Ao11, co11, eo11⟩ := Kd.R_slice HO322.out; subst eo11) | ((with_reducible refine gate_callee (f := 25) rfl ?_); refine gL 15 Try.func25 #[.slice Ao11 t320.length co11] ?_; (with_reducible refine (fold_Count.calls _ _ t320 t323 t324 _ ?side1 ?side2 A4.out).mono ?_); (case side1 => exact cl ((Kd.R_reads' HO322.out).2.2)); (case side2 => exact (Kd.R_reads' HO322.out).2.1); rintro e w12 ⟨rfl, hb⟩; refine ⟨_, rfl, ?_⟩; have n0_ := Aside0.mk (Kd.R_below (rl HO322) hb); have n1_ := Aside0.mk (below_step (bl HB) hb); clear HO322; clear HB; have HO322 := n0_; have HB := n1_; clear n0_ n1_; (try clear hb); (try clear hb2); (try clear hk); (try clear hi)) | ((with_reducible refine gate_callee (f := 26) rfl ?_); refine gL 21 Try.func26 #[.slice Ao11 t320.length co11, .int .i64 a1] ?_; (with_reducible refine (fold_At.calls _ _ t320 a1 t325 t326 _ ?side1 ?side2 A5.out).mono ?_); (case side1 => exact cl ((Kd.R_reads' HO322.out).2.2)); (case side2 => exact (Kd.R_reads' HO322.out).2.1); rintro e w13 ⟨v327, rfl, ho0, hb⟩; refine ⟨_, rfl, ?_⟩; have n0_ := Aside0.mk (Kd.R_elder' (rl HO322) (Kd.R_base ho0) hb); have n1_ := Aside0.mk (Kd.R_lower (Kd.R_new' ho0 (Kd.R_lt (rl HO322))) (below_size (bl HB))); have n2_ := Aside0.mk (below_step (bl HB) hb); clear HO322; clear HB; have HO322 := n0_; have HO328 := n1_; have HB := n2_; clear n0_ n1_ n2_; (try clear hb); (try clear hb2); (try clear hk); (try clear hi); (try clear ho0)) | ((with_reducible refine gate_callee (f := 18) rfl ?_); refine gL 25 Try.func18 #[.slice Ao11 t320.length co11] ?_; (with_reducible refine (gampref01_Strip.calls k _ _ t320 true _ ?side1 ?side2 A6.out).mono ?_); (case side1 => exact cl ((Kd.R_reads' HO322.out).2.2)); (case side2 => exact (Kd.R_reads' HO322.out).2.1); rintro e w' ⟨rfl, ⟨nd, rfl⟩⟩; refine ⟨_, rfl, ?_⟩) | ((with_reducible refine gate_callee (f := 27) rfl ?_); refine gL 46 Try.func27 #[.slice Ao11 t320.length co11, .bool false] ?_; (with_reducible refine (gampref01_All.calls k _ _ t320 false t331 _ ?side1 ?side2 A8.out).mono ?_); (case side1 => exact cl ((Kd.R_reads' HO322.out).2.2)); (case side2 => exact (Kd.R_reads' HO322.out).2.1); rintro e w14 ⟨v332, rfl, ho0, hb⟩; refine ⟨_, rfl, ?_⟩; have n0_ := Aside0.mk (Kd.R_below (rl HO322) hb); have n1_ := Aside0.mk (Kd.R_below (rl HO328) hb); have n2_ := Aside0.mk (Kd.N_lower (Kd.N_mono (ok' := fun k_ => some k_ ≠ (.slice Ao11 t320.length co11 : Value).ownBlock ∧ some k_ ≠ (v327 : Value).ownBlock) ho0 (fun k_ hk_ => ⟨(Kd.fresh' (Kd.R_lt (rl HO322)) k_ hk_), (Kd.fresh' (Kd.R_lt (rl HO328)) k_ hk_)⟩)) (below_size (bl HB))); have n3_ := Aside0.mk (below_step (bl HB) hb); clear HO322; clear HO328; clear HB; have HO322 := n0_; have HO328 := n1_; have HO333 := n2_; have HB := n3_; clear n0_ n1_ n2_ n3_; (try clear hb); (try clear hb2); (try clear hk); (try clear hi); (try clear ho0)))
  (try simp only [Act.put, List.setIfInBounds_toArray, List.set_cons_zero, List.set_cons_succ])
  go_cut [58] (fun v58 wc => ∃ (kq : Nat) (x58_8 : Bool), v58 = .bool x58_8 ∧ Aside0 (gamplaw01_FoldCounts.j0 kq a1 t325 t326 t331 x58_8 = some r) ∧ Aside0 (kq ≤ k) ∧ Aside0 (Kd.R (Kd.int .i64) 3 wc w.heap.size (fun _ => True) v327 t325) ∧ Aside0 (Kd.N (Kd.slice 3 (Kd.int .i64)) 22 wc w.heap.size (fun k_ => some k_ ≠ (v327 : Value).ownBlock) v332 t331) ∧ Aside0 (Below w.heap.size w wc))
  case first =>
   have H := HC9.out
   clear HC9
   by_cases c15 : t323 = (t331.length : Int)
   ·rw [if_pos c15] at H
    have c15b0 : (t323 == (t331.length : Int)) = true := beq_iff_eq.mpr c15
    have c15b1 : (t323 != (t331.length : Int)) = false := bne_eq_false_iff_eq.mpr c15
    clear c15
    (first | rw [c15b0] | (simp only [i64_w, i32_w]; rw [c15b0]) | skip)
    by_cases c16 : t324 = 0
    ·rw [if_pos c16] at H
     have c16b0 : (t324 == 0) = true := beq_iff_eq.mpr c16
     have c16b1 : (t324 != 0) = false := bne_eq_false_iff_eq.mpr c16
     clear c16
     replace H := Option.bind_eq_some_iff.mp H
     obtain ⟨t334, A170, H⟩ := H
     replace H : (gamplaw01_FoldCounts.j0 k a1 t325 t326 t331 (!t334)) = some r := H
     have A17 := Aside0.mk A170
     clear A170
     have H' := Aside0.mk H
     clear H
     obtain ⟨Ao18, co18, eo18⟩ := Kd.N_slice HO333.out
     subst eo18
     go_wp2_with (first | (go_at_call 20; (with_reducible refine (gamplaw01_lives.calls k  t334 _ A17.out).mono ?_); rintro e w19 ⟨rfl, hb⟩; have n0_ := Aside0.mk (Kd.R_below (rl HO322) hb); have n1_ := Aside0.mk (Kd.R_below (rl HO328) hb); have n2_ := Aside0.mk (Kd.N_below (nl HO333) hb); have n3_ := Aside0.mk (below_step (bl HB) hb); clear HO322; clear HO328; clear HO333; clear HB; have HO322 := n0_; have HO328 := n1_; have HO333 := n2_; have HB := n3_; clear n0_ n1_ n2_ n3_; (try clear hb); (try clear hb2); (try clear hk); (try clear hi)))
     go_meet
     case rel => exact ⟨_, (!t334), (by first | rfl | (simp; done) | (simp [*]; done)), H', ⟨by first | omega | exact Nat.le_refl _⟩, ⟨by (with_reducible repeat (first | apply Kd.R_alloc | apply Kd.R_drewN | apply Kd.R_drew)); exact Kd.R_mono HO328.out (fun _ hk => trivial)⟩, ⟨by (with_reducible repeat (first | apply Kd.N_alloc | apply Kd.N_drewN | apply Kd.N_drew)); exact Kd.N_mono HO333.out (fun _ hk => hk.2)⟩, ⟨bl HB⟩⟩
    ·rw [if_neg c16] at H
     have c16b0 : (t324 == 0) = false := beq_eq_false_iff_ne.mpr c16
     have c16b1 : (t324 != 0) = true := bne_iff_ne.mpr c16
     have H' := Aside0.mk H
     clear H
     obtain ⟨Ao20, co20, eo20⟩ := Kd.N_slice HO333.out
     subst eo20
     go_wp2
     go_meet
     case rel => exact ⟨_, (true), (by first | rfl | (simp; done) | (simp [*]; done)), H', ⟨by first | omega | exact Nat.le_refl _⟩, ⟨by (with_reducible repeat (first | apply Kd.R_alloc | apply Kd.R_drewN | apply Kd.R_drew)); exact Kd.R_mono HO328.out (fun _ hk => trivial)⟩, ⟨by (with_reducible repeat (first | apply Kd.N_alloc | apply Kd.N_drewN | apply Kd.N_drew)); exact Kd.N_mono HO333.out (fun _ hk => hk.2)⟩, ⟨bl HB⟩⟩
   ·rw [if_neg c15] at H
    have c15b0 : (t323 == (t331.length : Int)) = false := beq_eq_false_iff_ne.mpr c15
    have c15b1 : (t323 != (t331.length : Int)) = true := bne_iff_ne.mpr c15
    (first | rw [c15b0] | (simp only [i64_w, i32_w]; rw [c15b0]) | skip)
    have H' := Aside0.mk H
    clear H
    obtain ⟨Ao21, co21, eo21⟩ := Kd.N_slice HO333.out
    subst eo21
    go_wp2
    go_meet
    case rel => exact ⟨_, (true), (by first | rfl | (simp; done) | (simp [*]; done)), H', ⟨by first | omega | exact Nat.le_refl _⟩, ⟨by (with_reducible repeat (first | apply Kd.R_alloc | apply Kd.R_drewN | apply Kd.R_drew)); exact Kd.R_mono HO328.out (fun _ hk => trivial)⟩, ⟨by (with_reducible repeat (first | apply Kd.N_alloc | apply Kd.N_drewN | apply Kd.N_drew)); exact Kd.N_mono HO333.out (fun _ hk => hk.2)⟩, ⟨bl HB⟩⟩
  case rest =>
   clear HC9
   try clear c1
   try clear c2
   try clear p2
   try clear c5
   try clear c7
   try clear c15
   try clear c15b0
   try clear c15b1
   try clear c16
   try clear c16b0
   try clear c16b1
   try clear c18
   obtain ⟨kq, x58_8, rfl, HA, HJ8, HO_8, HO_10, HB⟩ := hcut
   cases kq with
   | zero => exact absurd HA.out (by simp [gamplaw01_FoldCounts.j0])
   | succ kj8 =>
    have H := HA.out
    clear HA
    simp only [gamplaw01_FoldCounts.j0] at H
    by_cases c22 : x58_8 = true
    ·subst c22
     have H1 : (some false) = some r := by rw [if_pos rfl] at H; exact H
     clear H
     have H := H1
     clear H1
     rw [hrt] at H
     cases H
    ·replace c22 := Bool.eq_false_iff.mpr c22
     subst c22
     have H1 : (if a1 < 0 then (if (t325.length : Int) = 0 then (some (t326 == 5)) else (some false)) else (if a1 ≥ (t331.length : Int) then (if (t325.length : Int) = 0 then (some (t326 == 5)) else (some false)) else (if 0 ≤ a1 then (if a1 < (t331.length : Int) then ((gampref01_Same.f kj8 t325 (rd_L1 t331 a1)).bind fun t336 => (if t336 = true then (some (t326 == 0)) else (some false))) else (none)) else (none)))) = some r := by rw [if_neg (show ¬ (false = true) by decide)] at H; exact H
     clear H
     have H := H1
     clear H1
     by_cases c23 : a1 < 0
     ·rw [if_pos c23] at H
      have c23b0 : decide (a1 < 0) = true := decide_eq_true c23
      clear c23
      by_cases c24 : (t325.length : Int) = 0
      ·rw [if_pos c24] at H
       have c24b0 : ((t325.length : Int) == 0) = true := beq_iff_eq.mpr c24
       have c24b1 : ((t325.length : Int) != 0) = false := bne_eq_false_iff_eq.mpr c24
       clear c24
       obtain rfl := Option.some.inj H
       obtain ⟨Ao25, co25, eo25⟩ := Kd.R_slice HO_8.out
       subst eo25
       go_wp2
       go_ret
       exact ⟨by first | rfl | (simp [errW_none, errW_some] <;> rfl) | (simp [*, errW_none, errW_some] <;> rfl), by repeat (first | (with_reducible first | exact HB.out | apply below_alloc | apply pw_below_drewN | apply below_drew1) | exact HB.out)⟩
      ·rw [if_neg c24] at H
       have c24b0 : ((t325.length : Int) == 0) = false := beq_eq_false_iff_ne.mpr c24
       have c24b1 : ((t325.length : Int) != 0) = true := bne_iff_ne.mpr c24
       have c24b2 : ¬ (t325 = []) := fun h_ => c24 (by rw [h_]; rfl)
       rw [hrt] at H
       cases H
     ·rw [if_neg c23] at H
      have c23b0 : decide (a1 < 0) = false := decide_eq_false c23
      clear c23
      by_cases c27 : a1 ≥ (t331.length : Int)
      ·rw [if_pos c27] at H
       have c27b0 : decide ((t331.length : Int) ≤ a1) = true := decide_eq_true c27
       clear c27
       by_cases c28 : (t325.length : Int) = 0
       ·rw [if_pos c28] at H
        have c28b0 : ((t325.length : Int) == 0) = true := beq_iff_eq.mpr c28
        have c28b1 : ((t325.length : Int) != 0) = false := bne_eq_false_iff_eq.mpr c28
        clear c28
        obtain rfl := Option.some.inj H
        obtain ⟨Ao29, co29, eo29⟩ := Kd.N_slice HO_10.out
        subst eo29
        obtain ⟨Ao30, co30, eo30⟩ := Kd.R_slice HO_8.out
        subst eo30
        go_wp2
        go_ret
        exact ⟨by first | rfl | (simp [errW_none, errW_some] <;> rfl) | (simp [*, errW_none, errW_some] <;> rfl), by repeat (first | (with_reducible first | exact HB.out | apply below_alloc | apply pw_below_drewN | apply below_drew1) | exact HB.out)⟩
       ·rw [if_neg c28] at H
        have c28b0 : ((t325.length : Int) == 0) = false := beq_eq_false_iff_ne.mpr c28
        have c28b1 : ((t325.length : Int) != 0) = true := bne_iff_ne.mpr c28
        have c28b2 : ¬ (t325 = []) := fun h_ => c28 (by rw [h_]; rfl)
        rw [hrt] at H
        cases H
      ·rw [if_neg c27] at H
       have c27b0 : decide ((t331.length : Int) ≤ a1) = false := decide_eq_false c27
       clear c27
       by_cases c33 : 0 ≤ a1
       ·rw [if_pos c33] at H
        have c33b0 : decide (0 ≤ a1) = true := decide_eq_true c33
        clear c33
        by_cases c34 : a1 < (t331.length : Int)
        ·rw [if_pos c34] at H
         have c34b0 : decide (a1 < (t331.length : Int)) = true := decide_eq_true c34
         clear c34
         replace H := Option.bind_eq_some_iff.mp H
         obtain ⟨t336, A350, H⟩ := H
         replace H : (if t336 = true then (some (t326 == 0)) else (some false)) = some r := H
         have A35 := Aside0.mk A350
         clear A350
         by_cases c36 : t336 = true
         ·subst c36
          have H1 : (some (t326 == 0)) = some r := by rw [if_pos rfl] at H; exact H
          clear H
          have H := H1
          clear H1
          obtain rfl := Option.some.inj H
          obtain ⟨Ao37, co37, eo37⟩ := Kd.N_slice HO_10.out
          subst eo37
          have p335 : 0 ≤ (a1 : Int) := ofd
          have q335 : a1 < (t331.length : Int) := ofd
          obtain ⟨ad335, A335_0, c335_0, e335, hx335_0, hl335_0, hi335_0⟩ := at_L1 (Kd.N_reads' HO_10.out).2.2 a1 p335 q335
          cases e335
          obtain ⟨ce335, hce335, hMe335, hcc335⟩ := Kd.N_get HO_10.out [] a1 p335 (by first | exact q335 | exact ofd | (have e_ := (Kd.N_reads' HO_10.out).1; omega))
          obtain ⟨ua335_0, uc335_0, rfl, ul335_0, ge335_0⟩ := Kd.FK_slice_open hMe335
          have hv335_0 := hcc335 0 _ rfl
          rw [Nat.add_zero, show ((Kd.slice 3 (Kd.int .i64))).sz = 1 from rfl, Nat.mul_one] at hv335_0
          replace hv335_0 := Option.some.inj (hv335_0.symm.trans hx335_0)
          injection hv335_0 with hva_ hvn_ hvc_
          rw [hva_] at ge335_0
          rw [hvc_] at ul335_0
          have HL335_0 := Aside0.mk (show Kd.V (Kd.int .i64) 3 _ w.heap.size _ _ (rd_L1 t331 a1) from Kd.V_mk ul335_0 ge335_0)
          clear hva_ hvn_ hvc_ ge335_0 ul335_0
          clear hcc335 hce335
          have HR335_0 := Aside0.mk hi335_0
          have HC335_0 := Aside0.mk hl335_0
          clear hi335_0 hl335_0
          replace p335 := eq_true p335
          replace q335 := eq_true q335
          obtain ⟨Ao38, co38, eo38⟩ := Kd.R_slice HO_8.out
          subst eo38
          go_wp2_with (first | ((with_reducible refine gate_callee (f := 22) rfl ?_); refine gL 79 Try.func22 #[.slice Ao38 t325.length co38, .slice A335_0 (rd_L1 t331 a1).length c335_0] ?_; (with_reducible refine (gampref01_Same.calls kj8 _ _ t325 _ _ (rd_L1 t331 a1) true _ ?side1 ?side2 ?side3 ?side4 A35.out).mono ?_); (case side1 => exact cl ((Kd.R_reads' HO_8.out).2.2)); (case side2 => exact (Kd.R_reads' HO_8.out).2.1); (case side3 => exact cl (HR335_0.out)); (case side4 => exact HC335_0.out); rintro e w' ⟨rfl, ⟨nd, rfl⟩⟩; refine ⟨_, rfl, ?_⟩))
          go_ret
          exact ⟨by first | rfl | (simp [errW_none, errW_some] <;> rfl) | (simp [*, errW_none, errW_some] <;> rfl), by repeat (first | (with_reducible first | exact HB.out | apply below_alloc | apply pw_below_drewN | apply below_drew1) | exact HB.out)⟩
         ·replace c36 := Bool.eq_false_iff.mpr c36
          subst c36
          have H1 : (some false) = some r := by rw [if_neg (show ¬ (false = true) by decide)] at H; exact H
          clear H
          have H := H1
          clear H1
          rw [hrt] at H
          cases H
        ·rw [if_neg c34] at H
         exact absurd H (by simp)
       ·rw [if_neg c33] at H
        exact absurd H (by simp)
 ·replace c7 := Bool.eq_false_iff.mpr c7
  subst c7
  have H1 : (if t323 = 0 then (if t324 = 1 then (if (t325.length : Int) = 0 then (if t326 = 1 then ((gamplaw01_lives.f k).bind fun t330 => (some t330)) else (some false)) else (some false)) else (some false)) else (some false)) = some r := by rw [if_neg (show ¬ (false = true) by decide)] at H; exact H
  clear H
  have H := H1
  clear H1
  by_cases c41 : t323 = 0
  ·rw [if_pos c41] at H
   have c41b0 : (t323 == 0) = true := beq_iff_eq.mpr c41
   have c41b1 : (t323 != 0) = false := bne_eq_false_iff_eq.mpr c41
   clear c41
   by_cases c42 : t324 = 1
   ·rw [if_pos c42] at H
    have c42b0 : (t324 == 1) = true := beq_iff_eq.mpr c42
    have c42b1 : (t324 != 1) = false := bne_eq_false_iff_eq.mpr c42
    clear c42
    by_cases c43 : (t325.length : Int) = 0
    ·rw [if_pos c43] at H
     have c43b0 : ((t325.length : Int) == 0) = true := beq_iff_eq.mpr c43
     have c43b1 : ((t325.length : Int) != 0) = false := bne_eq_false_iff_eq.mpr c43
     clear c43
     by_cases c44 : t326 = 1
     ·rw [if_pos c44] at H
      have c44b0 : (t326 == 1) = true := beq_iff_eq.mpr c44
      have c44b1 : (t326 != 1) = false := bne_eq_false_iff_eq.mpr c44
      clear c44
      replace H := Option.bind_eq_some_iff.mp H
      obtain ⟨t330, A450, H⟩ := H
      replace H : (some t330) = some r := H
      have A45 := Aside0.mk A450
      clear A450
      obtain rfl := Option.some.inj H
      go_enter Try.func5, Try.ntmps5
      go_wp2_with (first | ((with_reducible refine gate_callee (f := 15) rfl ?_); refine gL 12 Try.func15 #[.slice A0 l0.length c0, .int .i64 6, .int .i64 9] ?_; (with_reducible refine (gamplaw01_cut.calls _ _ l0 6 9 t320 _ ?side1 ?side2 A3.out).mono ?_); (case side1 => exact cl (HR0.out)); (case side2 => exact HC0.out); rintro e w46 ⟨v321, rfl, ho0, hb⟩; refine ⟨_, rfl, ?_⟩; have n0_ := Aside0.mk (Kd.R_lower ho0 (below_size (bl HB))); have n1_ := Aside0.mk (below_step (bl HB) hb); clear HB; have HO322 := n0_; have HB := n1_; clear n0_ n1_; (try clear hb); (try clear hb2); (try clear hk); (try clear hi); (try clear ho0); obtain ⟨Ao47, co47, eo47⟩ := Kd.R_slice HO322.out; subst eo47) | ((with_reducible refine gate_callee (f := 25) rfl ?_); refine gL 15 Try.func25 #[.slice Ao47 t320.length co47] ?_; (with_reducible refine (fold_Count.calls _ _ t320 t323 t324 _ ?side1 ?side2 A4.out).mono ?_); (case side1 => exact cl ((Kd.R_reads' HO322.out).2.2)); (case side2 => exact (Kd.R_reads' HO322.out).2.1); rintro e w48 ⟨rfl, hb⟩; refine ⟨_, rfl, ?_⟩; have n0_ := Aside0.mk (Kd.R_below (rl HO322) hb); have n1_ := Aside0.mk (below_step (bl HB) hb); clear HO322; clear HB; have HO322 := n0_; have HB := n1_; clear n0_ n1_; (try clear hb); (try clear hb2); (try clear hk); (try clear hi)) | ((with_reducible refine gate_callee (f := 26) rfl ?_); refine gL 21 Try.func26 #[.slice Ao47 t320.length co47, .int .i64 a1] ?_; (with_reducible refine (fold_At.calls _ _ t320 a1 t325 t326 _ ?side1 ?side2 A5.out).mono ?_); (case side1 => exact cl ((Kd.R_reads' HO322.out).2.2)); (case side2 => exact (Kd.R_reads' HO322.out).2.1); rintro e w49 ⟨v327, rfl, ho0, hb⟩; refine ⟨_, rfl, ?_⟩; have n0_ := Aside0.mk (Kd.R_elder' (rl HO322) (Kd.R_base ho0) hb); have n1_ := Aside0.mk (Kd.R_lower (Kd.R_new' ho0 (Kd.R_lt (rl HO322))) (below_size (bl HB))); have n2_ := Aside0.mk (below_step (bl HB) hb); clear HO322; clear HB; have HO322 := n0_; have HO328 := n1_; have HB := n2_; clear n0_ n1_ n2_; (try clear hb); (try clear hb2); (try clear hk); (try clear hi); (try clear ho0)) | ((with_reducible refine gate_callee (f := 18) rfl ?_); refine gL 25 Try.func18 #[.slice Ao47 t320.length co47] ?_; (with_reducible refine (gampref01_Strip.calls k _ _ t320 false _ ?side1 ?side2 A6.out).mono ?_); (case side1 => exact cl ((Kd.R_reads' HO322.out).2.2)); (case side2 => exact (Kd.R_reads' HO322.out).2.1); rintro e w' ⟨rfl, ⟨nd, rfl⟩⟩; refine ⟨_, rfl, ?_⟩; obtain ⟨Ao50, co50, eo50⟩ := Kd.R_slice HO328.out; subst eo50) | (go_at_call 20; (with_reducible refine (gamplaw01_lives.calls k  t330 _ A45.out).mono ?_); rintro e w51 ⟨rfl, hb⟩; have n0_ := Aside0.mk (Kd.R_below (rl HO322) hb); have n1_ := Aside0.mk (Kd.R_below (rl HO328) hb); have n2_ := Aside0.mk (below_step (bl HB) hb); clear HO322; clear HO328; clear HB; have HO322 := n0_; have HO328 := n1_; have HB := n2_; clear n0_ n1_ n2_; (try clear hb); (try clear hb2); (try clear hk); (try clear hi)))
      go_ret
      exact ⟨by first | rfl | (simp [errW_none, errW_some] <;> rfl) | (simp [*, errW_none, errW_some] <;> rfl), by repeat (first | (with_reducible first | exact HB.out | apply below_alloc | apply pw_below_drewN | apply below_drew1) | exact HB.out)⟩
     ·rw [if_neg c44] at H
      have c44b0 : (t326 == 1) = false := beq_eq_false_iff_ne.mpr c44
      have c44b1 : (t326 != 1) = true := bne_iff_ne.mpr c44
      rw [hrt] at H
      cases H
    ·rw [if_neg c43] at H
     have c43b0 : ((t325.length : Int) == 0) = false := beq_eq_false_iff_ne.mpr c43
     have c43b1 : ((t325.length : Int) != 0) = true := bne_iff_ne.mpr c43
     have c43b2 : ¬ (t325 = []) := fun h_ => c43 (by rw [h_]; rfl)
     rw [hrt] at H
     cases H
   ·rw [if_neg c42] at H
    have c42b0 : (t324 == 1) = false := beq_eq_false_iff_ne.mpr c42
    have c42b1 : (t324 != 1) = true := bne_iff_ne.mpr c42
    rw [hrt] at H
    cases H
  ·rw [if_neg c41] at H
   have c41b0 : (t323 == 0) = false := beq_eq_false_iff_ne.mpr c41
   have c41b1 : (t323 != 0) = true := bne_iff_ne.mpr c41
   rw [hrt] at H
   cases H
/-- THE ONE PURE STATEMENT of gamplaw01_FoldCounts: yours. -/
def gamplaw01_FoldCounts.Pure : Prop := ∀ (l0 : List Int) (a1 : Int), l0.length ≤ maxLen → l0.length * 8 ≤ 140737488351232 → (∀ x ∈ l0, (Lit.int .i64 x).wf = true) → (Lit.int .i64 a1).wf = true → ∃ k, gamplaw01_FoldCounts.f k l0 a1 = some true
theorem gamplaw01_FoldCounts.walk (P : gamplaw01_FoldCounts.Pure) (a0 : Option Addr) (len0 cap0 : Nat) (z0 : List Int) (a1 : Int) (w : World) (w0 : (a0 = none ∧ len0 = 0 ∧ cap0 = 0 ∧ z0 = []) ∨ ∃ x, a0 = some x ∧ len0 ≤ cap0 ∧ cap0 ≤ maxLen ∧ z0.length = cap0 ∧ (∀ i, i < z0.length → w.cell? (x.add i) = some (.int .i64 (z0.getD i 0))) ∧ ∀ n ∈ z0, (Lit.int .i64 n).wf = true) (y0 : len0 * 8 ≤ 140737488351232) (w1 : (Lit.int .i64 a1).wf = true) :
  Calls Try.prog 5 #[.slice a0 len0 cap0, .int .i64 a1] w fun e w' => e = .returned (.bool true) ∧ Below w.heap.size w w' := by
 obtain ⟨l0, rfl, hr0, hm0, hw0, hc0⟩ := ReadsInt.ofRowC w0
 obtain ⟨k, h⟩ := P l0 a1 hm0 y0 hw0 w1
 refine (gamplaw01_FoldCounts.calls k _ _ l0 a1 true w (Kd.C_of_reads (d := (0 : Int)) (h1 := fun _ => rfl) hr0) hc0 h rfl).mono ?_
 rintro e w' ⟨rfl, hd⟩
 exact ⟨rfl, hd⟩
end Go.Proofs.Ytiknnpfdpecfdaa.Gx

/- The declarations of Lxx33 that the claim Qe needs. -/
import Derived.Test.YtdldfdcedjmneaaQeTkP
import Derived.Test.YtdldfdcedjmneaaQeLxx9
import Derived.Test.YtdldfdcedjmneaaQeLxx31
import Derived.Test.YtdldfdcedjmneaaQeLxx0
import Derived.Test.YtdldfdcedjmneaaQeLxx1
import Derived.Test.YtdldfdcedjmneaaQeLxx2
namespace Go.Proofs.Ytdldfdcedjmneaa.Lx
open Go.RowKit Go.Proofs.Ytdldfdcedjmneaa.Own Go.Proofs.YtdldfdcedjmneaaW.PrintWords Go.Proofs.YtdldfdcedjmneaaW.PrintLast Go.Proofs.YtdldfdcedjmneaaW.PrintMore
attribute [local go_sem] max2_int min2_int max_two min_two max_three min_three max_four min_four
set_option linter.unusedVariables false
set_option linter.unusedSimpArgs false
set_option maxHeartbeats 8000000 in
set_option maxRecDepth 100000 in
theorem gamplaw05_StrapEquals.calls (k : Nat) (a0 : Int) (A1 : Option Addr) (c1 : Nat) (l1 : List Int) (A2 : Option Addr) (c2 : Nat) (l2 : List Int) (r : Bool) (w : World) (hr1 : Kd.C (Kd.int .i64) w A1 l1.length l1) (hc1 : l1.length ≤ c1) (hr2 : Kd.C (Kd.int .i64) w A2 l2.length l2) (hc2 : l2.length ≤ c2) (h : gamplaw05_StrapEquals.f k a0 l1 l2 = some r) (hrt : r = true) :
  Calls Try.prog 4 #[.int .i64 a0, .slice A1 l1.length c1, .slice A2 l2.length c2] w fun e w' => e = .returned (.bool r) ∧ Below w.heap.size w w' := by
 have HR1 := Aside0.mk hr1
 have HC1 := Aside0.mk hc1
 clear hr1 hc1
 have HR2 := Aside0.mk hr2
 have HC2 := Aside0.mk hc2
 clear hr2 hc2
 have HB := Aside0.mk (Below.refl w.heap.size w)
 have H : ((gamplaw05_cut.f l1 20).bind fun t310 => ((gamplaw05_cut.f l2 20).bind fun t313 => ((strap_Equal.f a0 t310 t313).bind fun bt316 => ((gampref05_Check.f k a0 t310 60).bind fun t318 => (if t318 = 0 then ((gampref05_Check.f k a0 t313 60).bind fun t319 => (gamplaw05_StrapEquals.j0 k a0 t310 t313 bt316.1 bt316.2 t319)) else (gamplaw05_StrapEquals.j0 k a0 t310 t313 bt316.1 bt316.2 t318)))))) = some r := h
 clear h
 replace H := Option.bind_eq_some_iff.mp H
 obtain ⟨t310, A40, H⟩ := H
 replace H : ((gamplaw05_cut.f l2 20).bind fun t313 => ((strap_Equal.f a0 t310 t313).bind fun bt316 => ((gampref05_Check.f k a0 t310 60).bind fun t318 => (if t318 = 0 then ((gampref05_Check.f k a0 t313 60).bind fun t319 => (gamplaw05_StrapEquals.j0 k a0 t310 t313 bt316.1 bt316.2 t319)) else (gamplaw05_StrapEquals.j0 k a0 t310 t313 bt316.1 bt316.2 t318))))) = some r := H
 have A4 := Aside0.mk A40
 clear A40
 replace H := Option.bind_eq_some_iff.mp H
 obtain ⟨t313, A50, H⟩ := H
 replace H : ((strap_Equal.f a0 t310 t313).bind fun bt316 => ((gampref05_Check.f k a0 t310 60).bind fun t318 => (if t318 = 0 then ((gampref05_Check.f k a0 t313 60).bind fun t319 => (gamplaw05_StrapEquals.j0 k a0 t310 t313 bt316.1 bt316.2 t319)) else (gamplaw05_StrapEquals.j0 k a0 t310 t313 bt316.1 bt316.2 t318)))) = some r := H
 have A5 := Aside0.mk A50
 clear A50
 replace H := Option.bind_eq_some_iff.mp H
 obtain ⟨⟨t316, t317⟩, A60, H⟩ := H
 replace H : ((gampref05_Check.f k a0 t310 60).bind fun t318 => (if t318 = 0 then ((gampref05_Check.f k a0 t313 60).bind fun t319 => (gamplaw05_StrapEquals.j0 k a0 t310 t313 t316 t317 t319)) else (gamplaw05_StrapEquals.j0 k a0 t310 t313 t316 t317 t318))) = some r := H
 have A6 := Aside0.mk A60
 clear A60
 replace H := Option.bind_eq_some_iff.mp H
 obtain ⟨t318, A70, H⟩ := H
 replace H : (if t318 = 0 then ((gampref05_Check.f k a0 t313 60).bind fun t319 => (gamplaw05_StrapEquals.j0 k a0 t310 t313 t316 t317 t319)) else (gamplaw05_StrapEquals.j0 k a0 t310 t313 t316 t317 t318)) = some r := H
 have A7 := Aside0.mk A70
 clear A70
 have HC8 := Aside0.mk H
 clear H
 go_enter Try.func4, Try.ntmps4
 go_upto_if 27 with (first | ((with_reducible refine gate_callee (f := 16) rfl ?_); refine gL 13 Try.func16 #[.slice A1 l1.length c1, .int .i64 20] ?_; (with_reducible refine (gamplaw05_cut.calls _ _ l1 20 t310 _ ?side1 ?side2 A4.out).mono ?_); (case side1 => exact cl (HR1.out)); (case side2 => exact HC1.out); rintro e w9 ⟨v311, rfl, ho0, hb⟩; refine ⟨_, rfl, ?_⟩; have n0_ := Aside0.mk (Kd.R_lower ho0 (below_size (bl HB))); have n1_ := Aside0.mk (below_step (bl HB) hb); clear HB; have HO312 := n0_; have HB := n1_; clear n0_ n1_; (try clear hb); (try clear hb2); (try clear hk); (try clear hi); (try clear ho0)) | ((with_reducible refine gate_callee (f := 16) rfl ?_); refine gL 15 Try.func16 #[.slice A2 l2.length c2, .int .i64 20] ?_; (with_reducible refine (gamplaw05_cut.calls _ _ l2 20 t313 _ ?side1 ?side2 A5.out).mono ?_); (case side1 => exact cl (Kd.C_below HR2.out HB.out)); (case side2 => exact HC2.out); rintro e w10 ⟨v314, rfl, ho0, hb⟩; refine ⟨_, rfl, ?_⟩; have n0_ := Aside0.mk (Kd.R_elder' (rl HO312) (Kd.R_base ho0) hb); have n1_ := Aside0.mk (Kd.R_lower (Kd.R_new' ho0 (Kd.R_lt (rl HO312))) (below_size (bl HB))); have n2_ := Aside0.mk (below_step (bl HB) hb); clear HO312; clear HB; have HO312 := n0_; have HO315 := n1_; have HB := n2_; clear n0_ n1_ n2_; (try clear hb); (try clear hb2); (try clear hk); (try clear hi); (try clear ho0); obtain ⟨Ao11, co11, eo11⟩ := Kd.R_slice HO312.out; subst eo11; obtain ⟨Ao12, co12, eo12⟩ := Kd.R_slice HO315.out; subst eo12) | ((with_reducible refine gate_callee (f := 23) rfl ?_); refine gL 20 Try.func23 #[.int .i64 a0, .slice Ao11 t310.length co11, .slice Ao12 t313.length co12] ?_; (with_reducible refine (strap_Equal.calls a0 _ _ t310 _ _ t313 t316 t317 _ ?side1 ?side2 ?side3 ?side4 A6.out).mono ?_); (case side1 => exact cl ((Kd.R_reads' HO312.out).2.2)); (case side2 => exact (Kd.R_reads' HO312.out).2.1); (case side3 => exact cl ((Kd.R_reads' HO315.out).2.2)); (case side4 => exact (Kd.R_reads' HO315.out).2.1); rintro e w13 ⟨rfl, hb⟩; refine ⟨_, rfl, ?_⟩; have n0_ := Aside0.mk (Kd.R_below (rl HO312) hb); have n1_ := Aside0.mk (Kd.R_below (rl HO315) hb); have n2_ := Aside0.mk (below_step (bl HB) hb); clear HO312; clear HO315; clear HB; have HO312 := n0_; have HO315 := n1_; have HB := n2_; clear n0_ n1_ n2_; (try clear hb); (try clear hb2); (try clear hk); (try clear hi)) | ((with_reducible refine gate_callee (f := 18) rfl ?_); refine gL 25 Try.func18 #[.int .i64 a0, .slice Ao11 t310.length co11, .int .i64 60] ?_; (with_reducible refine (gampref05_Check.calls k a0 _ _ t310 60 t318 _ ?side1 ?side2 A7.out).mono ?_); (case side1 => exact cl ((Kd.R_reads' HO312.out).2.2)); (case side2 => exact (Kd.R_reads' HO312.out).2.1); rintro e w' ⟨rfl, ⟨nd, rfl⟩⟩; refine ⟨_, rfl, ?_⟩))
 (try simp only [Act.put, List.setIfInBounds_toArray, List.set_cons_zero, List.set_cons_succ])
 go_cut [11] (fun v11 wc => ∃ (kq : Nat) (x11_7 : Int), v11 = .int .i64 x11_7 ∧ Aside0 (gamplaw05_StrapEquals.j0 kq a0 t310 t313 t316 t317 x11_7 = some r) ∧ Aside0 (kq ≤ k) ∧ Aside0 (Kd.R (Kd.int .i64) 3 wc w.heap.size (fun k_ => some k_ ≠ ((.slice Ao12 t313.length co12) : Value).ownBlock) (.slice Ao11 t310.length co11) t310) ∧ Aside0 (Kd.R (Kd.int .i64) 3 wc w.heap.size (fun k_ => some k_ ≠ ((.slice Ao11 t310.length co11) : Value).ownBlock) (.slice Ao12 t313.length co12) t313) ∧ Aside0 (Below w.heap.size w wc))
 case first =>
  have H := HC8.out
  clear HC8
  by_cases c14 : t318 = 0
  ·rw [if_pos c14] at H
   have c14b0 : (t318 == 0) = true := beq_iff_eq.mpr c14
   have c14b1 : (t318 != 0) = false := bne_eq_false_iff_eq.mpr c14
   clear c14
   (first | rw [c14b0] | (simp only [i64_w, i32_w]; rw [c14b0]) | skip)
   replace H := Option.bind_eq_some_iff.mp H
   obtain ⟨t319, A150, H⟩ := H
   replace H : (gamplaw05_StrapEquals.j0 k a0 t310 t313 t316 t317 t319) = some r := H
   have A15 := Aside0.mk A150
   clear A150
   have H' := Aside0.mk H
   clear H
   go_wp2_with (first | ((with_reducible refine gate_callee (f := 18) rfl ?_); refine gL 30 Try.func18 #[.int .i64 a0, .slice Ao12 t313.length co12, .int .i64 60] ?_; (with_reducible refine (gampref05_Check.calls k a0 _ _ t313 60 t319 _ ?side1 ?side2 A15.out).mono ?_); (case side1 => exact cl ((Kd.R_reads' HO315.out).2.2)); (case side2 => exact (Kd.R_reads' HO315.out).2.1); rintro e w' ⟨rfl, ⟨nd, rfl⟩⟩; refine ⟨_, rfl, ?_⟩))
   go_meet
   case rel => exact ⟨_, (t319), (by first | rfl | (simp; done) | (simp [*]; done)), H', ⟨by first | omega | exact Nat.le_refl _⟩, ⟨by (with_reducible repeat (first | apply Kd.R_alloc | apply Kd.R_drewN | apply Kd.R_drew)); exact Kd.R_mono HO312.out (fun _ hk => hk.2)⟩, ⟨by (with_reducible repeat (first | apply Kd.R_alloc | apply Kd.R_drewN | apply Kd.R_drew)); exact Kd.R_mono HO315.out (fun _ hk => hk.2)⟩, ⟨bl HB⟩⟩
  ·rw [if_neg c14] at H
   have c14b0 : (t318 == 0) = false := beq_eq_false_iff_ne.mpr c14
   have c14b1 : (t318 != 0) = true := bne_iff_ne.mpr c14
   (first | rw [c14b0] | (simp only [i64_w, i32_w]; rw [c14b0]) | skip)
   have H' := Aside0.mk H
   clear H
   go_wp2
   go_meet
   case rel => exact ⟨_, (t318), (by first | rfl | (simp; done) | (simp [*]; done)), H', ⟨by first | omega | exact Nat.le_refl _⟩, ⟨by (with_reducible repeat (first | apply Kd.R_alloc | apply Kd.R_drewN | apply Kd.R_drew)); exact Kd.R_mono HO312.out (fun _ hk => hk.2)⟩, ⟨by (with_reducible repeat (first | apply Kd.R_alloc | apply Kd.R_drewN | apply Kd.R_drew)); exact Kd.R_mono HO315.out (fun _ hk => hk.2)⟩, ⟨bl HB⟩⟩
 case rest =>
  clear HC8
  try clear c1
  try clear c2
  try clear p2
  try clear c4
  try clear c14
  try clear c14b0
  try clear c14b1
  obtain ⟨kq, x11_7, rfl, HA, HJ7, HO_7, HO_8, HB⟩ := hcut
  cases kq with
  | zero => exact absurd HA.out (by simp [gamplaw05_StrapEquals.j0])
  | succ kj7 =>
   have H := HA.out
   clear HA
   simp only [gamplaw05_StrapEquals.j0] at H
   by_cases c16 : x11_7 = 0
   ·rw [if_pos c16] at H
    have c16b0 : (x11_7 == 0) = true := beq_iff_eq.mpr c16
    have c16b1 : (x11_7 != 0) = false := bne_eq_false_iff_eq.mpr c16
    clear c16
    replace H := Option.bind_eq_some_iff.mp H
    obtain ⟨⟨t321, t322⟩, A170, H⟩ := H
    replace H : ((gampref05_Normal.f kj7 a0 t313).bind fun bt325 => ((gampref05_SameBraid.f kj7 t321 t322 bt325.1 bt325.2).bind fun t329 => (if (t316 == t329) = true then (if t317 = 0 then ((gamplaw05_lives.f kj7).bind fun t330 => (some t330)) else (some false)) else (some false)))) = some r := H
    have A17 := Aside0.mk A170
    clear A170
    replace H := Option.bind_eq_some_iff.mp H
    obtain ⟨⟨t325, t326⟩, A180, H⟩ := H
    replace H : ((gampref05_SameBraid.f kj7 t321 t322 t325 t326).bind fun t329 => (if (t316 == t329) = true then (if t317 = 0 then ((gamplaw05_lives.f kj7).bind fun t330 => (some t330)) else (some false)) else (some false))) = some r := H
    have A18 := Aside0.mk A180
    clear A180
    replace H := Option.bind_eq_some_iff.mp H
    obtain ⟨t329, A190, H⟩ := H
    replace H : (if (t316 == t329) = true then (if t317 = 0 then ((gamplaw05_lives.f kj7).bind fun t330 => (some t330)) else (some false)) else (some false)) = some r := H
    have A19 := Aside0.mk A190
    clear A190
    by_cases c20 : (t316 == t329) = true
    ·rw [if_pos c20] at H
     have c20b0 : (t316 == t329) = true := c20
     (try (have c20b1 : decide (t316 = t329) = true := by simpa using c20))
     (try (have c20b2 : (t316 == t329) = true := by simpa using c20))
     clear c20
     by_cases c21 : t317 = 0
     ·rw [if_pos c21] at H
      have c21b0 : (t317 == 0) = true := beq_iff_eq.mpr c21
      have c21b1 : (t317 != 0) = false := bne_eq_false_iff_eq.mpr c21
      clear c21
      replace H := Option.bind_eq_some_iff.mp H
      obtain ⟨t330, A220, H⟩ := H
      replace H : (some t330) = some r := H
      have A22 := Aside0.mk A220
      clear A220
      obtain rfl := Option.some.inj H
      go_wp2_with (first | ((with_reducible refine gate_callee (f := 22) rfl ?_); refine gL 46 Try.func22 #[.int .i64 a0, .slice Ao11 t310.length co11] ?_; (with_reducible refine (gampref05_Normal.calls kj7 a0 _ _ t310 t321 t322 _ ?side1 ?side2 A17.out).mono ?_); (case side1 => exact cl ((Kd.R_reads' HO_7.out).2.2)); (case side2 => exact (Kd.R_reads' HO_7.out).2.1); rintro e w23 ⟨v323, rfl, ho0, hb⟩; refine ⟨_, rfl, ?_⟩; have n0_ := Aside0.mk (Kd.R_below (rl HO_7) hb); have n1_ := Aside0.mk (Kd.R_below (rl HO_8) hb); have n2_ := Aside0.mk (Kd.N_lower (Kd.N_mono (ok' := fun k_ => some k_ ≠ (.slice Ao11 t310.length co11 : Value).ownBlock ∧ some k_ ≠ (.slice Ao12 t313.length co12 : Value).ownBlock) ho0 (fun k_ hk_ => ⟨(Kd.fresh' (Kd.R_lt (rl HO_7)) k_ hk_), (Kd.fresh' (Kd.R_lt (rl HO_8)) k_ hk_)⟩)) (below_size (bl HB))); have n3_ := Aside0.mk (below_step (bl HB) hb); clear HO_7; clear HO_8; clear HB; have HO_7 := n0_; have HO_8 := n1_; have HO324 := n2_; have HB := n3_; clear n0_ n1_ n2_ n3_; (try clear hb); (try clear hb2); (try clear hk); (try clear hi); (try clear ho0)) | ((with_reducible refine gate_callee (f := 22) rfl ?_); refine gL 49 Try.func22 #[.int .i64 a0, .slice Ao12 t313.length co12] ?_; (with_reducible refine (gampref05_Normal.calls kj7 a0 _ _ t313 t325 t326 _ ?side1 ?side2 A18.out).mono ?_); (case side1 => exact cl ((Kd.R_reads' HO_8.out).2.2)); (case side2 => exact (Kd.R_reads' HO_8.out).2.1); rintro e w24 ⟨v327, rfl, ho0, hb⟩; refine ⟨_, rfl, ?_⟩; have n0_ := Aside0.mk (Kd.R_below (rl HO_7) hb); have n1_ := Aside0.mk (Kd.R_below (rl HO_8) hb); have n2_ := Aside0.mk (Kd.N_elder' (nl HO324) (by first | exact Kd.N_base ho0 | exact Kd.S_base ho0 | exact Kd.R_base ho0) hb); have n3_ := Aside0.mk (Kd.N_lower (Kd.N_mono (ok' := fun k_ => some k_ ≠ (.slice Ao11 t310.length co11 : Value).ownBlock ∧ some k_ ≠ (.slice Ao12 t313.length co12 : Value).ownBlock ∧ some k_ ≠ (v323 : Value).ownBlock) ho0 (fun k_ hk_ => ⟨(Kd.fresh' (Kd.R_lt (rl HO_7)) k_ hk_), (Kd.fresh' (Kd.R_lt (rl HO_8)) k_ hk_), (Kd.fresh' (Kd.N_lt (nl HO324)) k_ hk_)⟩)) (below_size (bl HB))); have n4_ := Aside0.mk (below_step (bl HB) hb); clear HO_7; clear HO_8; clear HO324; clear HB; have HO_7 := n0_; have HO_8 := n1_; have HO324 := n2_; have HO328 := n3_; have HB := n4_; clear n0_ n1_ n2_ n3_ n4_; (try clear hb); (try clear hb2); (try clear hk); (try clear hi); (try clear ho0); obtain ⟨Ao25, co25, eo25⟩ := Kd.N_slice HO324.out; subst eo25; obtain ⟨Ao26, co26, eo26⟩ := Kd.N_slice HO328.out; subst eo26) | ((with_reducible refine gate_callee (f := 21) rfl ?_); refine gL 50 Try.func21 #[.agg #[.int .i64 t321, .slice Ao25 t322.length co25], .agg #[.int .i64 t325, .slice Ao26 t326.length co26]] ?_; (with_reducible refine (gampref05_SameBraid.calls kj7 t321 _ _ t322 t325 _ _ t326 t329 _ ?side1 ?side2 ?side3 ?side4 A19.out).mono ?_); (case side1 => exact cl ((Kd.N_reads' HO324.out).2.2)); (case side2 => exact (Kd.N_reads' HO324.out).2.1); (case side3 => exact cl ((Kd.N_reads' HO328.out).2.2)); (case side4 => exact (Kd.N_reads' HO328.out).2.1); rintro e w27 ⟨rfl, hb⟩; refine ⟨_, rfl, ?_⟩; have n0_ := Aside0.mk (Kd.R_below (rl HO_7) hb); have n1_ := Aside0.mk (Kd.R_below (rl HO_8) hb); have n2_ := Aside0.mk (Kd.N_below (nl HO324) hb); have n3_ := Aside0.mk (Kd.N_below (nl HO328) hb); have n4_ := Aside0.mk (below_step (bl HB) hb); clear HO_7; clear HO_8; clear HO324; clear HO328; clear HB; have HO_7 := n0_; have HO_8 := n1_; have HO324 := n2_; have HO328 := n3_; have HB := n4_; clear n0_ n1_ n2_ n3_ n4_; (try clear hb); (try clear hb2); (try clear hk); (try clear hi)) | (go_at_call 20; (with_reducible refine (gamplaw05_lives.calls kj7  t330 _ A22.out).mono ?_); rintro e w28 ⟨rfl, hb⟩; have n0_ := Aside0.mk (Kd.R_below (rl HO_7) hb); have n1_ := Aside0.mk (Kd.R_below (rl HO_8) hb); have n2_ := Aside0.mk (Kd.N_below (nl HO324) hb); have n3_ := Aside0.mk (Kd.N_below (nl HO328) hb); have n4_ := Aside0.mk (below_step (bl HB) hb); clear HO_7; clear HO_8; clear HO324; clear HO328; clear HB; have HO_7 := n0_; have HO_8 := n1_; have HO324 := n2_; have HO328 := n3_; have HB := n4_; clear n0_ n1_ n2_ n3_ n4_; (try clear hb); (try clear hb2); (try clear hk); (try clear hi)))
      go_ret
      exact ⟨by first | rfl | (simp [errW_none, errW_some] <;> rfl) | (simp [*, errW_none, errW_some] <;> rfl), by repeat (first | (with_reducible first | exact HB.out | apply below_alloc | apply pw_below_drewN | apply below_drew1) | exact HB.out)⟩
     ·rw [if_neg c21] at H
      have c21b0 : (t317 == 0) = false := beq_eq_false_iff_ne.mpr c21
      have c21b1 : (t317 != 0) = true := bne_iff_ne.mpr c21
      rw [hrt] at H
      cases H
    ·rw [if_neg c20] at H
     have c20b0 : (t316 == t329) = false := by simpa using c20
     (try (have c20b1 : decide (t316 = t329) = false := by simpa using c20))
     (try (have c20b2 : (t316 == t329) = false := by simpa using c20))
     (try (have c20b3 : ¬ (t316 = t329) := by simpa using c20))
     clear c20
     rw [hrt] at H
     cases H
   ·rw [if_neg c16] at H
    have c16b0 : (x11_7 == 0) = false := beq_eq_false_iff_ne.mpr c16
    have c16b1 : (x11_7 != 0) = true := bne_iff_ne.mpr c16
    by_cases c39 : t316 = true
    ·subst c39
     have H1 : (some false) = some r := by rw [if_pos rfl] at H; exact H
     clear H
     have H := H1
     clear H1
     rw [hrt] at H
     cases H
    ·replace c39 := Bool.eq_false_iff.mpr c39
     subst c39
     have H1 : (if t317 = x11_7 then ((gamplaw05_lives.f kj7).bind fun t320 => (some t320)) else (some false)) = some r := by rw [if_neg (show ¬ (false = true) by decide)] at H; exact H
     clear H
     have H := H1
     clear H1
     by_cases c40 : t317 = x11_7
     ·rw [if_pos c40] at H
      have c40b0 : (t317 == x11_7) = true := beq_iff_eq.mpr c40
      have c40b1 : (t317 != x11_7) = false := bne_eq_false_iff_eq.mpr c40
      clear c40
      replace H := Option.bind_eq_some_iff.mp H
      obtain ⟨t320, A410, H⟩ := H
      replace H : (some t320) = some r := H
      have A41 := Aside0.mk A410
      clear A410
      obtain rfl := Option.some.inj H
      go_wp2_with (first | (go_at_call 20; (with_reducible refine (gamplaw05_lives.calls kj7  t320 _ A41.out).mono ?_); rintro e w42 ⟨rfl, hb⟩; have n0_ := Aside0.mk (Kd.R_below (rl HO_7) hb); have n1_ := Aside0.mk (Kd.R_below (rl HO_8) hb); have n2_ := Aside0.mk (below_step (bl HB) hb); clear HO_7; clear HO_8; clear HB; have HO_7 := n0_; have HO_8 := n1_; have HB := n2_; clear n0_ n1_ n2_; (try clear hb); (try clear hb2); (try clear hk); (try clear hi)))
      go_ret
      exact ⟨by first | rfl | (simp [errW_none, errW_some] <;> rfl) | (simp [*, errW_none, errW_some] <;> rfl), by repeat (first | (with_reducible first | exact HB.out | apply below_alloc | apply pw_below_drewN | apply below_drew1) | exact HB.out)⟩
     ·rw [if_neg c40] at H
      have c40b0 : (t317 == x11_7) = false := beq_eq_false_iff_ne.mpr c40
      have c40b1 : (t317 != x11_7) = true := bne_iff_ne.mpr c40
      rw [hrt] at H
      cases H
/-- THE ONE PURE STATEMENT of gamplaw05_StrapEquals: yours. -/
theorem gamplaw05_StrapEquals.walk (P : gamplaw05_StrapEquals.Pure) (a0 : Int) (a1 : Option Addr) (len1 cap1 : Nat) (z1 : List Int) (a2 : Option Addr) (len2 cap2 : Nat) (z2 : List Int) (w : World) (w0 : (Lit.int .i64 a0).wf = true) (w1 : (a1 = none ∧ len1 = 0 ∧ cap1 = 0 ∧ z1 = []) ∨ ∃ x, a1 = some x ∧ len1 ≤ cap1 ∧ cap1 ≤ maxLen ∧ z1.length = cap1 ∧ (∀ i, i < z1.length → w.cell? (x.add i) = some (.int .i64 (z1.getD i 0))) ∧ ∀ n ∈ z1, (Lit.int .i64 n).wf = true) (y1 : len1 * 8 ≤ 140737488351232) (w2 : (a2 = none ∧ len2 = 0 ∧ cap2 = 0 ∧ z2 = []) ∨ ∃ x, a2 = some x ∧ len2 ≤ cap2 ∧ cap2 ≤ maxLen ∧ z2.length = cap2 ∧ (∀ i, i < z2.length → w.cell? (x.add i) = some (.int .i64 (z2.getD i 0))) ∧ ∀ n ∈ z2, (Lit.int .i64 n).wf = true) (y2 : len2 * 8 ≤ 140737488351232) :
  Calls Try.prog 4 #[.int .i64 a0, .slice a1 len1 cap1, .slice a2 len2 cap2] w fun e w' => e = .returned (.bool true) ∧ Below w.heap.size w w' := by
 obtain ⟨l1, rfl, hr1, hm1, hw1, hc1⟩ := ReadsInt.ofRowC w1
 obtain ⟨l2, rfl, hr2, hm2, hw2, hc2⟩ := ReadsInt.ofRowC w2
 obtain ⟨k, h⟩ := P a0 l1 l2 w0 hm1 y1 hw1 hm2 y2 hw2
 refine (gamplaw05_StrapEquals.calls k a0 _ _ l1 _ _ l2 true w (Kd.C_of_reads (d := (0 : Int)) (h1 := fun _ => rfl) hr1) hc1 (Kd.C_of_reads (d := (0 : Int)) (h1 := fun _ => rfl) hr2) hc2 h rfl).mono ?_
 rintro e w' ⟨rfl, hd⟩
 exact ⟨rfl, hd⟩
end Go.Proofs.Ytdldfdcedjmneaa.Lx

/- The declarations of Oxx8 that the claim Qd needs. -/
import Derived.Test.YtiknnpfdpecfdaaQdTkP
import Derived.Test.YtiknnpfdpecfdaaQdOxx0
import Derived.Test.YtiknnpfdpecfdaaQdZ6
namespace Go.Proofs.Ytiknnpfdpecfdaa.Ox
open Go.RowKit Go.Proofs.Ytiknnpfdpecfdaa.Own Go.Proofs.Ytiknnpfdpecfdaa.Gx Go.Proofs.YtiknnpfdpecfdaaW.PrintWords Go.Proofs.YtiknnpfdpecfdaaW.PrintLast Go.Proofs.YtiknnpfdpecfdaaW.PrintMore
attribute [local go_sem] max2_int min2_int max_two min_two max_three min_three max_four min_four
set_option linter.unusedVariables false
set_option linter.unusedSimpArgs false
mutual
def gamplaw01_FoldBackwards.j0 : Nat → Int → List Int → Int → Bool → Option (Bool)
  | 0, _, _, _, _ => none
  | k + 1, x1, x5, x6, x35 => if x35 = true then (some false) else (if x6 = 0 then (none) else ((fold_At.f x5 (Int.tmod (wrap64 (x1)) x6)).bind fun bt227 => ((fold_Creases.f k x5 bt227.1).bind fun bt231 => (if bt227.2 = 0 then (gamplaw01_FoldBackwards.j1 k x5 x6 bt227.1 bt231.1 (bt231.2 != 0)) else (gamplaw01_FoldBackwards.j1 k x5 x6 bt227.1 bt231.1 true)))))
def gamplaw01_FoldBackwards.j1 : Nat → List Int → Int → List Int → ByteArray → Bool → Option (Bool)
  | 0, _, _, _, _, _ => none
  | k + 1, x5, x6, x8, x10, x56 => if x56 = true then (some false) else ((gamplaw01_backwards.f k x5 x8 x10).bind fun bt233 => (if ((x5.length : Int) % 2) = 0 then ((gamplaw01_exchanged.f k bt233.2.2).bind fun t240 => ((fold_Creases.f k bt233.1 bt233.2.1).bind fun bt241 => ((fold_Count.f bt233.1).bind fun bt243 => (if bt241.1.toList = t240.toList then (if bt241.2 = 0 then (if bt243.1 = x6 then (some (bt243.2 == 0)) else (some false)) else (some false)) else (some false))))) else ((fold_Creases.f k bt233.1 bt233.2.1).bind fun bt245 => ((fold_Count.f bt233.1).bind fun bt247 => (if bt245.1.toList = bt233.2.2.toList then (if bt245.2 = 0 then (if bt247.1 = x6 then (some (bt247.2 == 0)) else (some false)) else (some false)) else (some false))))))
end
def gamplaw01_FoldBackwards.f (k : Nat) (l0 : List Int) (a1 : Int) : Option (Bool) := (gamplaw01_strip.f k l0 7 6).bind fun t221 => ((fold_Count.f t221).bind fun bt224 => (if bt224.2 = 0 then (if bt224.1 < 1 then (gamplaw01_FoldBackwards.j0 k a1 t221 bt224.1 true) else ((gamplaw01_lives.f k).bind fun t226 => (gamplaw01_FoldBackwards.j0 k a1 t221 bt224.1 (!t226)))) else (gamplaw01_FoldBackwards.j0 k a1 t221 bt224.1 true)))
set_option maxHeartbeats 8000000 in
set_option maxRecDepth 100000 in
theorem gamplaw01_FoldBackwards.calls (k : Nat) (A0 : Option Addr) (c0 : Nat) (l0 : List Int) (a1 : Int) (r : Bool) (w : World) (hr0 : Kd.C (Kd.int .i64) w A0 l0.length l0) (hc0 : l0.length ≤ c0) (h : gamplaw01_FoldBackwards.f k l0 a1 = some r) (hrt : r = true) :
  Calls Try.prog 10 #[.slice A0 l0.length c0, .int .u16 a1] w fun e w' => e = .returned (.bool r) ∧ Below w.heap.size w w' := by
 have HR0 := Aside0.mk hr0
 have HC0 := Aside0.mk hc0
 clear hr0 hc0
 have HB := Aside0.mk (Below.refl w.heap.size w)
 have H : ((gamplaw01_strip.f k l0 7 6).bind fun t221 => ((fold_Count.f t221).bind fun bt224 => (if bt224.2 = 0 then (if bt224.1 < 1 then (gamplaw01_FoldBackwards.j0 k a1 t221 bt224.1 true) else ((gamplaw01_lives.f k).bind fun t226 => (gamplaw01_FoldBackwards.j0 k a1 t221 bt224.1 (!t226)))) else (gamplaw01_FoldBackwards.j0 k a1 t221 bt224.1 true)))) = some r := h
 clear h
 replace H := Option.bind_eq_some_iff.mp H
 obtain ⟨t221, A30, H⟩ := H
 replace H : ((fold_Count.f t221).bind fun bt224 => (if bt224.2 = 0 then (if bt224.1 < 1 then (gamplaw01_FoldBackwards.j0 k a1 t221 bt224.1 true) else ((gamplaw01_lives.f k).bind fun t226 => (gamplaw01_FoldBackwards.j0 k a1 t221 bt224.1 (!t226)))) else (gamplaw01_FoldBackwards.j0 k a1 t221 bt224.1 true))) = some r := H
 have A3 := Aside0.mk A30
 clear A30
 replace H := Option.bind_eq_some_iff.mp H
 obtain ⟨⟨t224, t225⟩, A40, H⟩ := H
 replace H : (if t225 = 0 then (if t224 < 1 then (gamplaw01_FoldBackwards.j0 k a1 t221 t224 true) else ((gamplaw01_lives.f k).bind fun t226 => (gamplaw01_FoldBackwards.j0 k a1 t221 t224 (!t226)))) else (gamplaw01_FoldBackwards.j0 k a1 t221 t224 true)) = some r := H
 have A4 := Aside0.mk A40
 clear A40
 have HC5 := Aside0.mk H
 clear H
 go_enter Try.func10, Try.ntmps10
 go_upto_region 3 with (first | ((with_reducible refine gate_callee (f := 28) rfl ?_); refine gL 20 Try.func28 #[.slice A0 l0.length c0, .int .i64 7, .int .i64 6] ?_; (with_reducible refine (gamplaw01_strip.calls k _ _ l0 7 6 t221 _ ?side1 ?side2 A3.out).mono ?_); (case side1 => exact cl (HR0.out)); (case side2 => exact HC0.out); rintro e w6 ⟨v222, rfl, ho0, hb⟩; refine ⟨_, rfl, ?_⟩; have n0_ := Aside0.mk (Kd.R_lower ho0 (below_size (bl HB))); have n1_ := Aside0.mk (below_step (bl HB) hb); clear HB; have HO223 := n0_; have HB := n1_; clear n0_ n1_; (try clear hb); (try clear hb2); (try clear hk); (try clear hi); (try clear ho0); obtain ⟨Ao7, co7, eo7⟩ := Kd.R_slice HO223.out; subst eo7) | ((with_reducible refine gate_callee (f := 25) rfl ?_); refine gL 23 Try.func25 #[.slice Ao7 t221.length co7] ?_; (with_reducible refine (fold_Count.calls _ _ t221 t224 t225 _ ?side1 ?side2 A4.out).mono ?_); (case side1 => exact cl ((Kd.R_reads' HO223.out).2.2)); (case side2 => exact (Kd.R_reads' HO223.out).2.1); rintro e w8 ⟨rfl, hb⟩; refine ⟨_, rfl, ?_⟩; have n0_ := Aside0.mk (Kd.R_below (rl HO223) hb); have n1_ := Aside0.mk (below_step (bl HB) hb); clear HO223; clear HB; have HO223 := n0_; have HB := n1_; clear n0_ n1_; (try clear hb); (try clear hb2); (try clear hk); (try clear hi)))
 (try simp only [Act.put, List.setIfInBounds_toArray, List.set_cons_zero, List.set_cons_succ])
 go_cut [35] (fun v35 wc => ∃ (kq : Nat) (x35_4 : Bool), v35 = .bool x35_4 ∧ Aside0 (gamplaw01_FoldBackwards.j0 kq a1 t221 t224 x35_4 = some r) ∧ Aside0 (kq ≤ k) ∧ Aside0 (Kd.R (Kd.int .i64) 3 wc w.heap.size (fun _ => True) (.slice Ao7 t221.length co7) t221) ∧ Aside0 (Below w.heap.size w wc))
 case first =>
  have H := HC5.out
  clear HC5
  by_cases c9 : t225 = 0
  ·rw [if_pos c9] at H
   have c9b0 : (t225 == 0) = true := beq_iff_eq.mpr c9
   have c9b1 : (t225 != 0) = false := bne_eq_false_iff_eq.mpr c9
   clear c9
   (first | rw [c9b0] | (simp only [i64_w, i32_w]; rw [c9b0]) | skip)
   by_cases c10 : t224 < 1
   ·rw [if_pos c10] at H
    have c10b0 : decide (t224 < 1) = true := decide_eq_true c10
    clear c10
    have H' := Aside0.mk H
    clear H
    go_wp2
    go_meet
    case rel => exact ⟨_, (true), (by first | rfl | (simp; done) | (simp [*]; done)), H', ⟨by first | omega | exact Nat.le_refl _⟩, ⟨rl HO223⟩, ⟨bl HB⟩⟩
   ·rw [if_neg c10] at H
    have c10b0 : decide (t224 < 1) = false := decide_eq_false c10
    clear c10
    replace H := Option.bind_eq_some_iff.mp H
    obtain ⟨t226, A110, H⟩ := H
    replace H : (gamplaw01_FoldBackwards.j0 k a1 t221 t224 (!t226)) = some r := H
    have A11 := Aside0.mk A110
    clear A110
    have H' := Aside0.mk H
    clear H
    go_wp2_with (first | (go_at_call 20; (with_reducible refine (gamplaw01_lives.calls k  t226 _ A11.out).mono ?_); rintro e w12 ⟨rfl, hb⟩; have n0_ := Aside0.mk (Kd.R_below (rl HO223) hb); have n1_ := Aside0.mk (below_step (bl HB) hb); clear HO223; clear HB; have HO223 := n0_; have HB := n1_; clear n0_ n1_; (try clear hb); (try clear hb2); (try clear hk); (try clear hi)))
    go_meet
    case rel => exact ⟨_, (!t226), (by first | rfl | (simp; done) | (simp [*]; done)), H', ⟨by first | omega | exact Nat.le_refl _⟩, ⟨rl HO223⟩, ⟨bl HB⟩⟩
  ·rw [if_neg c9] at H
   have c9b0 : (t225 == 0) = false := beq_eq_false_iff_ne.mpr c9
   have c9b1 : (t225 != 0) = true := bne_iff_ne.mpr c9
   (first | rw [c9b0] | (simp only [i64_w, i32_w]; rw [c9b0]) | skip)
   have H' := Aside0.mk H
   clear H
   go_wp2
   go_meet
   case rel => exact ⟨_, (true), (by first | rfl | (simp; done) | (simp [*]; done)), H', ⟨by first | omega | exact Nat.le_refl _⟩, ⟨rl HO223⟩, ⟨bl HB⟩⟩
 case rest =>
  clear HC5
  try clear c1
  try clear c2
  try clear p2
  try clear c9
  try clear c9b0
  try clear c9b1
  try clear c10
  try clear c10b0
  obtain ⟨kq, x35_4, rfl, HA, HJ4, HO_5, HB⟩ := hcut
  cases kq with
  | zero => exact absurd HA.out (by simp [gamplaw01_FoldBackwards.j0])
  | succ kj4 =>
   have H := HA.out
   clear HA
   simp only [gamplaw01_FoldBackwards.j0] at H
   by_cases c13 : x35_4 = true
   ·subst c13
    have H1 : (some false) = some r := by rw [if_pos rfl] at H; exact H
    clear H
    have H := H1
    clear H1
    rw [hrt] at H
    cases H
   ·replace c13 := Bool.eq_false_iff.mpr c13
    subst c13
    have H1 : (if t224 = 0 then (none) else ((fold_At.f t221 (Int.tmod (wrap64 (a1)) t224)).bind fun bt227 => ((fold_Creases.f kj4 t221 bt227.1).bind fun bt231 => (if bt227.2 = 0 then (gamplaw01_FoldBackwards.j1 kj4 t221 t224 bt227.1 bt231.1 (bt231.2 != 0)) else (gamplaw01_FoldBackwards.j1 kj4 t221 t224 bt227.1 bt231.1 true))))) = some r := by rw [if_neg (show ¬ (false = true) by decide)] at H; exact H
    clear H
    have H := H1
    clear H1
    by_cases c14 : t224 = 0
    ·rw [if_pos c14] at H
     exact absurd H (by simp)
    ·rw [if_neg c14] at H
     have c14b0 : (t224 == 0) = false := beq_eq_false_iff_ne.mpr c14
     have c14b1 : (t224 != 0) = true := bne_iff_ne.mpr c14
     replace H := Option.bind_eq_some_iff.mp H
     obtain ⟨⟨t227, t228⟩, A150, H⟩ := H
     replace H : ((fold_Creases.f kj4 t221 t227).bind fun bt231 => (if t228 = 0 then (gamplaw01_FoldBackwards.j1 kj4 t221 t224 t227 bt231.1 (bt231.2 != 0)) else (gamplaw01_FoldBackwards.j1 kj4 t221 t224 t227 bt231.1 true))) = some r := H
     have A15 := Aside0.mk A150
     clear A150
     replace H := Option.bind_eq_some_iff.mp H
     obtain ⟨⟨t231, t232⟩, A160, H⟩ := H
     replace H : (if t228 = 0 then (gamplaw01_FoldBackwards.j1 kj4 t221 t224 t227 t231 (t232 != 0)) else (gamplaw01_FoldBackwards.j1 kj4 t221 t224 t227 t231 true)) = some r := H
     have A16 := Aside0.mk A160
     clear A160
     have HC17 := Aside0.mk H
     clear H
     go_upto_region 7 with (first | ((with_reducible refine gate_callee (f := 26) rfl ?_); refine gL 42 Try.func26 #[.slice Ao7 t221.length co7, .int .i64 (Int.tmod (wrap64 (a1)) t224)] ?_; (with_reducible refine (fold_At.calls _ _ t221 (Int.tmod (wrap64 (a1)) t224) t227 t228 _ ?side1 ?side2 A15.out).mono ?_); (case side1 => exact cl ((Kd.R_reads' HO_5.out).2.2)); (case side2 => exact (Kd.R_reads' HO_5.out).2.1); rintro e w18 ⟨v229, rfl, ho0, hb⟩; refine ⟨_, rfl, ?_⟩; have n0_ := Aside0.mk (Kd.R_elder' (rl HO_5) (Kd.R_base ho0) hb); have n1_ := Aside0.mk (Kd.R_lower (Kd.R_new' ho0 (Kd.R_lt (rl HO_5))) (below_size (bl HB))); have n2_ := Aside0.mk (below_step (bl HB) hb); clear HO_5; clear HB; have HO_5 := n0_; have HO230 := n1_; have HB := n2_; clear n0_ n1_ n2_; (try clear hb); (try clear hb2); (try clear hk); (try clear hi); (try clear ho0); obtain ⟨Ao19, co19, eo19⟩ := Kd.R_slice HO230.out; subst eo19) | ((with_reducible refine gate_callee (f := 38) rfl ?_); refine gL 48 Try.func38 #[.slice Ao7 t221.length co7, .slice Ao19 t227.length co19] ?_; (with_reducible refine (fold_Creases.calls kj4 _ _ t221 _ _ t227 t231 t232 _ ?side1 ?side2 ?side3 ?side4 A16.out).mono ?_); (case side1 => exact cl ((Kd.R_reads' HO_5.out).2.2)); (case side2 => exact (Kd.R_reads' HO_5.out).2.1); (case side3 => exact cl ((Kd.R_reads' HO230.out).2.2)); (case side4 => exact (Kd.R_reads' HO230.out).2.1); rintro e w20 ⟨rfl, hb⟩; refine ⟨_, rfl, ?_⟩; have n0_ := Aside0.mk (Kd.R_below (rl HO_5) hb); have n1_ := Aside0.mk (Kd.R_below (rl HO230) hb); have n2_ := Aside0.mk (below_step (bl HB) hb); clear HO_5; clear HO230; clear HB; have HO_5 := n0_; have HO230 := n1_; have HB := n2_; clear n0_ n1_ n2_; (try clear hb); (try clear hb2); (try clear hk); (try clear hi)))
     (try simp only [Act.put, List.setIfInBounds_toArray, List.set_cons_zero, List.set_cons_succ])
     go_cut [56] (fun v56 wc => ∃ (kq : Nat) (x56_16 : Bool), v56 = .bool x56_16 ∧ Aside0 (gamplaw01_FoldBackwards.j1 kq t221 t224 t227 t231 x56_16 = some r) ∧ Aside0 (kq ≤ kj4) ∧ Aside0 (Kd.R (Kd.int .i64) 3 wc w.heap.size (fun k_ => some k_ ≠ ((.slice Ao19 t227.length co19) : Value).ownBlock) (.slice Ao7 t221.length co7) t221) ∧ Aside0 (Kd.R (Kd.int .i64) 3 wc w.heap.size (fun k_ => some k_ ≠ ((.slice Ao7 t221.length co7) : Value).ownBlock) (.slice Ao19 t227.length co19) t227) ∧ Aside0 (Below w.heap.size w wc))
     case first =>
      have H := HC17.out
      clear HC17
      by_cases c21 : t228 = 0
      ·rw [if_pos c21] at H
       have c21b0 : (t228 == 0) = true := beq_iff_eq.mpr c21
       have c21b1 : (t228 != 0) = false := bne_eq_false_iff_eq.mpr c21
       clear c21
       (first | rw [c21b0] | (simp only [i64_w, i32_w]; rw [c21b0]) | skip)
       have H' := Aside0.mk H
       clear H
       go_wp2
       go_meet
       case rel => exact ⟨_, ((t232 != 0)), (by first | rfl | (simp; done) | (simp [*]; done)), H', ⟨by have := HJ4.out; first | omega | exact Nat.le_refl _⟩, ⟨by (with_reducible repeat (first | apply Kd.R_alloc | apply Kd.R_drewN | apply Kd.R_drew)); exact Kd.R_mono HO_5.out (fun _ hk => hk.2)⟩, ⟨by (with_reducible repeat (first | apply Kd.R_alloc | apply Kd.R_drewN | apply Kd.R_drew)); exact Kd.R_mono HO230.out (fun _ hk => hk.2)⟩, ⟨bl HB⟩⟩
      ·rw [if_neg c21] at H
       have c21b0 : (t228 == 0) = false := beq_eq_false_iff_ne.mpr c21
       have c21b1 : (t228 != 0) = true := bne_iff_ne.mpr c21
       (first | rw [c21b0] | (simp only [i64_w, i32_w]; rw [c21b0]) | skip)
       have H' := Aside0.mk H
       clear H
       go_wp2
       go_meet
       case rel => exact ⟨_, (true), (by first | rfl | (simp; done) | (simp [*]; done)), H', ⟨by have := HJ4.out; first | omega | exact Nat.le_refl _⟩, ⟨by (with_reducible repeat (first | apply Kd.R_alloc | apply Kd.R_drewN | apply Kd.R_drew)); exact Kd.R_mono HO_5.out (fun _ hk => hk.2)⟩, ⟨by (with_reducible repeat (first | apply Kd.R_alloc | apply Kd.R_drewN | apply Kd.R_drew)); exact Kd.R_mono HO230.out (fun _ hk => hk.2)⟩, ⟨bl HB⟩⟩
     case rest =>
      clear HC17
      try clear c1
      try clear c2
      try clear p2
      try clear c3
      try clear p6
      try clear c9
      try clear c9b0
      try clear c9b1
      try clear c10
      try clear c10b0
      try clear c13
      try clear c14
      try clear c14b0
      try clear c14b1
      try clear c21
      try clear c21b0
      try clear c21b1
      try clear p2
      obtain ⟨kq, x56_16, rfl, HA, HJ16, HO_5, HO_8, HB⟩ := hcut
      cases kq with
      | zero => exact absurd HA.out (by simp [gamplaw01_FoldBackwards.j1])
      | succ kj16 =>
       have H := HA.out
       clear HA
       simp only [gamplaw01_FoldBackwards.j1] at H
       by_cases c22 : x56_16 = true
       ·subst c22
        have H1 : (some false) = some r := by rw [if_pos rfl] at H; exact H
        clear H
        have H := H1
        clear H1
        rw [hrt] at H
        cases H
       ·replace c22 := Bool.eq_false_iff.mpr c22
        subst c22
        have H1 : ((gamplaw01_backwards.f kj16 t221 t227 t231).bind fun bt233 => (if ((t221.length : Int) % 2) = 0 then ((gamplaw01_exchanged.f kj16 bt233.2.2).bind fun t240 => ((fold_Creases.f kj16 bt233.1 bt233.2.1).bind fun bt241 => ((fold_Count.f bt233.1).bind fun bt243 => (if bt241.1.toList = t240.toList then (if bt241.2 = 0 then (if bt243.1 = t224 then (some (bt243.2 == 0)) else (some false)) else (some false)) else (some false))))) else ((fold_Creases.f kj16 bt233.1 bt233.2.1).bind fun bt245 => ((fold_Count.f bt233.1).bind fun bt247 => (if bt245.1.toList = bt233.2.2.toList then (if bt245.2 = 0 then (if bt247.1 = t224 then (some (bt247.2 == 0)) else (some false)) else (some false)) else (some false)))))) = some r := by rw [if_neg (show ¬ (false = true) by decide)] at H; exact H
        clear H
        have H := H1
        clear H1
        replace H := Option.bind_eq_some_iff.mp H
        obtain ⟨⟨t233, t234, t235⟩, A230, H⟩ := H
        replace H : (if ((t221.length : Int) % 2) = 0 then ((gamplaw01_exchanged.f kj16 t235).bind fun t240 => ((fold_Creases.f kj16 t233 t234).bind fun bt241 => ((fold_Count.f t233).bind fun bt243 => (if bt241.1.toList = t240.toList then (if bt241.2 = 0 then (if bt243.1 = t224 then (some (bt243.2 == 0)) else (some false)) else (some false)) else (some false))))) else ((fold_Creases.f kj16 t233 t234).bind fun bt245 => ((fold_Count.f t233).bind fun bt247 => (if bt245.1.toList = t235.toList then (if bt245.2 = 0 then (if bt247.1 = t224 then (some (bt247.2 == 0)) else (some false)) else (some false)) else (some false))))) = some r := H
        have A23 := Aside0.mk A230
        clear A230
        by_cases c24 : ((t221.length : Int) % 2) = 0
        ·rw [if_pos c24] at H
         have c24b0 : (((t221.length : Int) % 2) == 0) = true := beq_iff_eq.mpr c24
         have c24b1 : (((t221.length : Int) % 2) != 0) = false := bne_eq_false_iff_eq.mpr c24
         clear c24
         replace H := Option.bind_eq_some_iff.mp H
         obtain ⟨t240, A250, H⟩ := H
         replace H : ((fold_Creases.f kj16 t233 t234).bind fun bt241 => ((fold_Count.f t233).bind fun bt243 => (if bt241.1.toList = t240.toList then (if bt241.2 = 0 then (if bt243.1 = t224 then (some (bt243.2 == 0)) else (some false)) else (some false)) else (some false)))) = some r := H
         have A25 := Aside0.mk A250
         clear A250
         replace H := Option.bind_eq_some_iff.mp H
         obtain ⟨⟨t241, t242⟩, A260, H⟩ := H
         replace H : ((fold_Count.f t233).bind fun bt243 => (if t241.toList = t240.toList then (if t242 = 0 then (if bt243.1 = t224 then (some (bt243.2 == 0)) else (some false)) else (some false)) else (some false))) = some r := H
         have A26 := Aside0.mk A260
         clear A260
         replace H := Option.bind_eq_some_iff.mp H
         obtain ⟨⟨t243, t244⟩, A270, H⟩ := H
         replace H : (if t241.toList = t240.toList then (if t242 = 0 then (if t243 = t224 then (some (t244 == 0)) else (some false)) else (some false)) else (some false)) = some r := H
         have A27 := Aside0.mk A270
         clear A270
         by_cases c28 : t241.toList = t240.toList
         ·rw [if_pos c28] at H
          have c28b0 : (t241.toList == t240.toList) = true := beq_iff_eq.mpr c28
          have c28b1 : (t241.toList != t240.toList) = false := bne_eq_false_iff_eq.mpr c28
          clear c28
          by_cases c29 : t242 = 0
          ·rw [if_pos c29] at H
           have c29b0 : (t242 == 0) = true := beq_iff_eq.mpr c29
           have c29b1 : (t242 != 0) = false := bne_eq_false_iff_eq.mpr c29
           clear c29
           by_cases c30 : t243 = t224
           ·rw [if_pos c30] at H
            have c30b0 : (t243 == t224) = true := beq_iff_eq.mpr c30
            have c30b1 : (t243 != t224) = false := bne_eq_false_iff_eq.mpr c30
            clear c30
            obtain rfl := Option.some.inj H
            go_wp2_with (first | ((with_reducible refine gate_callee (f := 41) rfl ?_); refine gL 61 Try.func41 #[.slice Ao7 t221.length co7, .slice Ao19 t227.length co19, .string t231] ?_; (with_reducible refine (gamplaw01_backwards.calls kj16 _ _ t221 _ _ t227 t231 t233 t234 t235 _ ?side1 ?side2 ?side3 ?side4 A23.out).mono ?_); (case side1 => exact cl ((Kd.R_reads' HO_5.out).2.2)); (case side2 => exact (Kd.R_reads' HO_5.out).2.1); (case side3 => exact cl ((Kd.R_reads' HO_8.out).2.2)); (case side4 => exact (Kd.R_reads' HO_8.out).2.1); rintro e w31 ⟨v236, v238, rfl, ho0, ho1, hb⟩; refine ⟨_, rfl, ?_⟩; have n0_ := Aside0.mk (Kd.R_mono (Kd.R_told (Kd.R_told (Kd.R_old (rl HO_5) hb) (Kd.R_base ho0)) (Kd.R_base ho1)) (fun _ h_ => h_.1)); have n1_ := Aside0.mk (Kd.R_mono (Kd.R_told (Kd.R_told (Kd.R_old (rl HO_8) hb) (Kd.R_base ho0)) (Kd.R_base ho1)) (fun _ h_ => h_.1)); have n2_ := Aside0.mk (Kd.R_lower (Kd.R_new' (Kd.R_new' ho0 (Kd.R_lt (rl HO_5))) (Kd.R_lt (rl HO_8))) (below_size (bl HB))); have n3_ := Aside0.mk (Kd.R_lower (Kd.R_new' (Kd.R_new' ho1 (Kd.R_lt (rl HO_5))) (Kd.R_lt (rl HO_8))) (below_size (bl HB))); have n4_ := Aside0.mk (below_step (bl HB) hb); clear HO_5; clear HO_8; clear HB; have HO_5 := n0_; have HO_8 := n1_; have HO237 := n2_; have HO239 := n3_; have HB := n4_; clear n0_ n1_ n2_ n3_ n4_; (try clear hb); (try clear hb2); (try clear hk); (try clear hi); (try clear ho0); (try clear ho1)) | ((with_reducible refine gate_callee (f := 40) rfl ?_); refine gL 70 Try.func40 #[.string t235] ?_; (with_reducible refine (gamplaw01_exchanged.calls kj16 t235 t240 _ A25.out).mono ?_); rintro e w' ⟨rfl, ⟨nd, rfl⟩⟩; refine ⟨_, rfl, ?_⟩; obtain ⟨Ao32, co32, eo32⟩ := Kd.R_slice HO237.out; subst eo32; obtain ⟨Ao33, co33, eo33⟩ := Kd.R_slice HO239.out; subst eo33) | ((with_reducible refine gate_callee (f := 38) rfl ?_); refine gL 74 Try.func38 #[.slice Ao32 t233.length co32, .slice Ao33 t234.length co33] ?_; (with_reducible refine (fold_Creases.calls kj16 _ _ t233 _ _ t234 t241 t242 _ ?side1 ?side2 ?side3 ?side4 A26.out).mono ?_); (case side1 => exact cl ((Kd.R_reads' HO237.out).2.2)); (case side2 => exact (Kd.R_reads' HO237.out).2.1); (case side3 => exact cl ((Kd.R_reads' HO239.out).2.2)); (case side4 => exact (Kd.R_reads' HO239.out).2.1); rintro e w34 ⟨rfl, hb⟩; refine ⟨_, rfl, ?_⟩; have n0_ := Aside0.mk (Kd.R_below (rl HO_5) hb); have n1_ := Aside0.mk (Kd.R_below (rl HO_8) hb); have n2_ := Aside0.mk (Kd.R_below (rl HO237) hb); have n3_ := Aside0.mk (Kd.R_below (rl HO239) hb); have n4_ := Aside0.mk (below_step (bl HB) hb); clear HO_5; clear HO_8; clear HO237; clear HO239; clear HB; have HO_5 := n0_; have HO_8 := n1_; have HO237 := n2_; have HO239 := n3_; have HB := n4_; clear n0_ n1_ n2_ n3_ n4_; (try clear hb); (try clear hb2); (try clear hk); (try clear hi)) | ((with_reducible refine gate_callee (f := 25) rfl ?_); refine gL 79 Try.func25 #[.slice Ao32 t233.length co32] ?_; (with_reducible refine (fold_Count.calls _ _ t233 t243 t244 _ ?side1 ?side2 A27.out).mono ?_); (case side1 => exact cl ((Kd.R_reads' HO237.out).2.2)); (case side2 => exact (Kd.R_reads' HO237.out).2.1); rintro e w35 ⟨rfl, hb⟩; refine ⟨_, rfl, ?_⟩; have n0_ := Aside0.mk (Kd.R_below (rl HO_5) hb); have n1_ := Aside0.mk (Kd.R_below (rl HO_8) hb); have n2_ := Aside0.mk (Kd.R_below (rl HO237) hb); have n3_ := Aside0.mk (Kd.R_below (rl HO239) hb); have n4_ := Aside0.mk (below_step (bl HB) hb); clear HO_5; clear HO_8; clear HO237; clear HO239; clear HB; have HO_5 := n0_; have HO_8 := n1_; have HO237 := n2_; have HO239 := n3_; have HB := n4_; clear n0_ n1_ n2_ n3_ n4_; (try clear hb); (try clear hb2); (try clear hk); (try clear hi)))
            go_ret
            exact ⟨by first | rfl | (simp [errW_none, errW_some] <;> rfl) | (simp [*, errW_none, errW_some] <;> rfl), by repeat (first | (with_reducible first | exact HB.out | apply below_alloc | apply pw_below_drewN | apply below_drew1) | exact HB.out)⟩
           ·rw [if_neg c30] at H
            have c30b0 : (t243 == t224) = false := beq_eq_false_iff_ne.mpr c30
            have c30b1 : (t243 != t224) = true := bne_iff_ne.mpr c30
            rw [hrt] at H
            cases H
          ·rw [if_neg c29] at H
           have c29b0 : (t242 == 0) = false := beq_eq_false_iff_ne.mpr c29
           have c29b1 : (t242 != 0) = true := bne_iff_ne.mpr c29
           rw [hrt] at H
           cases H
         ·rw [if_neg c28] at H
          have c28b0 : (t241.toList == t240.toList) = false := beq_eq_false_iff_ne.mpr c28
          have c28b1 : (t241.toList != t240.toList) = true := bne_iff_ne.mpr c28
          rw [hrt] at H
          cases H
        ·rw [if_neg c24] at H
         have c24b0 : (((t221.length : Int) % 2) == 0) = false := beq_eq_false_iff_ne.mpr c24
         have c24b1 : (((t221.length : Int) % 2) != 0) = true := bne_iff_ne.mpr c24
         replace H := Option.bind_eq_some_iff.mp H
         obtain ⟨⟨t245, t246⟩, A510, H⟩ := H
         replace H : ((fold_Count.f t233).bind fun bt247 => (if t245.toList = t235.toList then (if t246 = 0 then (if bt247.1 = t224 then (some (bt247.2 == 0)) else (some false)) else (some false)) else (some false))) = some r := H
         have A51 := Aside0.mk A510
         clear A510
         replace H := Option.bind_eq_some_iff.mp H
         obtain ⟨⟨t247, t248⟩, A520, H⟩ := H
         replace H : (if t245.toList = t235.toList then (if t246 = 0 then (if t247 = t224 then (some (t248 == 0)) else (some false)) else (some false)) else (some false)) = some r := H
         have A52 := Aside0.mk A520
         clear A520
         by_cases c53 : t245.toList = t235.toList
         ·rw [if_pos c53] at H
          have c53b0 : (t245.toList == t235.toList) = true := beq_iff_eq.mpr c53
          have c53b1 : (t245.toList != t235.toList) = false := bne_eq_false_iff_eq.mpr c53
          clear c53
          by_cases c54 : t246 = 0
          ·rw [if_pos c54] at H
           have c54b0 : (t246 == 0) = true := beq_iff_eq.mpr c54
           have c54b1 : (t246 != 0) = false := bne_eq_false_iff_eq.mpr c54
           clear c54
           by_cases c55 : t247 = t224
           ·rw [if_pos c55] at H
            have c55b0 : (t247 == t224) = true := beq_iff_eq.mpr c55
            have c55b1 : (t247 != t224) = false := bne_eq_false_iff_eq.mpr c55
            clear c55
            obtain rfl := Option.some.inj H
            go_wp2_with (first | ((with_reducible refine gate_callee (f := 41) rfl ?_); refine gL 61 Try.func41 #[.slice Ao7 t221.length co7, .slice Ao19 t227.length co19, .string t231] ?_; (with_reducible refine (gamplaw01_backwards.calls kj16 _ _ t221 _ _ t227 t231 t233 t234 t235 _ ?side1 ?side2 ?side3 ?side4 A23.out).mono ?_); (case side1 => exact cl ((Kd.R_reads' HO_5.out).2.2)); (case side2 => exact (Kd.R_reads' HO_5.out).2.1); (case side3 => exact cl ((Kd.R_reads' HO_8.out).2.2)); (case side4 => exact (Kd.R_reads' HO_8.out).2.1); rintro e w56 ⟨v236, v238, rfl, ho0, ho1, hb⟩; refine ⟨_, rfl, ?_⟩; have n0_ := Aside0.mk (Kd.R_mono (Kd.R_told (Kd.R_told (Kd.R_old (rl HO_5) hb) (Kd.R_base ho0)) (Kd.R_base ho1)) (fun _ h_ => h_.1)); have n1_ := Aside0.mk (Kd.R_mono (Kd.R_told (Kd.R_told (Kd.R_old (rl HO_8) hb) (Kd.R_base ho0)) (Kd.R_base ho1)) (fun _ h_ => h_.1)); have n2_ := Aside0.mk (Kd.R_lower (Kd.R_new' (Kd.R_new' ho0 (Kd.R_lt (rl HO_5))) (Kd.R_lt (rl HO_8))) (below_size (bl HB))); have n3_ := Aside0.mk (Kd.R_lower (Kd.R_new' (Kd.R_new' ho1 (Kd.R_lt (rl HO_5))) (Kd.R_lt (rl HO_8))) (below_size (bl HB))); have n4_ := Aside0.mk (below_step (bl HB) hb); clear HO_5; clear HO_8; clear HB; have HO_5 := n0_; have HO_8 := n1_; have HO237 := n2_; have HO239 := n3_; have HB := n4_; clear n0_ n1_ n2_ n3_ n4_; (try clear hb); (try clear hb2); (try clear hk); (try clear hi); (try clear ho0); (try clear ho1); obtain ⟨Ao57, co57, eo57⟩ := Kd.R_slice HO237.out; subst eo57; obtain ⟨Ao58, co58, eo58⟩ := Kd.R_slice HO239.out; subst eo58) | ((with_reducible refine gate_callee (f := 38) rfl ?_); refine gL 74 Try.func38 #[.slice Ao57 t233.length co57, .slice Ao58 t234.length co58] ?_; (with_reducible refine (fold_Creases.calls kj16 _ _ t233 _ _ t234 t245 t246 _ ?side1 ?side2 ?side3 ?side4 A51.out).mono ?_); (case side1 => exact cl ((Kd.R_reads' HO237.out).2.2)); (case side2 => exact (Kd.R_reads' HO237.out).2.1); (case side3 => exact cl ((Kd.R_reads' HO239.out).2.2)); (case side4 => exact (Kd.R_reads' HO239.out).2.1); rintro e w59 ⟨rfl, hb⟩; refine ⟨_, rfl, ?_⟩; have n0_ := Aside0.mk (Kd.R_below (rl HO_5) hb); have n1_ := Aside0.mk (Kd.R_below (rl HO_8) hb); have n2_ := Aside0.mk (Kd.R_below (rl HO237) hb); have n3_ := Aside0.mk (Kd.R_below (rl HO239) hb); have n4_ := Aside0.mk (below_step (bl HB) hb); clear HO_5; clear HO_8; clear HO237; clear HO239; clear HB; have HO_5 := n0_; have HO_8 := n1_; have HO237 := n2_; have HO239 := n3_; have HB := n4_; clear n0_ n1_ n2_ n3_ n4_; (try clear hb); (try clear hb2); (try clear hk); (try clear hi)) | ((with_reducible refine gate_callee (f := 25) rfl ?_); refine gL 79 Try.func25 #[.slice Ao57 t233.length co57] ?_; (with_reducible refine (fold_Count.calls _ _ t233 t247 t248 _ ?side1 ?side2 A52.out).mono ?_); (case side1 => exact cl ((Kd.R_reads' HO237.out).2.2)); (case side2 => exact (Kd.R_reads' HO237.out).2.1); rintro e w60 ⟨rfl, hb⟩; refine ⟨_, rfl, ?_⟩; have n0_ := Aside0.mk (Kd.R_below (rl HO_5) hb); have n1_ := Aside0.mk (Kd.R_below (rl HO_8) hb); have n2_ := Aside0.mk (Kd.R_below (rl HO237) hb); have n3_ := Aside0.mk (Kd.R_below (rl HO239) hb); have n4_ := Aside0.mk (below_step (bl HB) hb); clear HO_5; clear HO_8; clear HO237; clear HO239; clear HB; have HO_5 := n0_; have HO_8 := n1_; have HO237 := n2_; have HO239 := n3_; have HB := n4_; clear n0_ n1_ n2_ n3_ n4_; (try clear hb); (try clear hb2); (try clear hk); (try clear hi)))
            go_ret
            exact ⟨by first | rfl | (simp [errW_none, errW_some] <;> rfl) | (simp [*, errW_none, errW_some] <;> rfl), by repeat (first | (with_reducible first | exact HB.out | apply below_alloc | apply pw_below_drewN | apply below_drew1) | exact HB.out)⟩
           ·rw [if_neg c55] at H
            have c55b0 : (t247 == t224) = false := beq_eq_false_iff_ne.mpr c55
            have c55b1 : (t247 != t224) = true := bne_iff_ne.mpr c55
            rw [hrt] at H
            cases H
          ·rw [if_neg c54] at H
           have c54b0 : (t246 == 0) = false := beq_eq_false_iff_ne.mpr c54
           have c54b1 : (t246 != 0) = true := bne_iff_ne.mpr c54
           rw [hrt] at H
           cases H
         ·rw [if_neg c53] at H
          have c53b0 : (t245.toList == t235.toList) = false := beq_eq_false_iff_ne.mpr c53
          have c53b1 : (t245.toList != t235.toList) = true := bne_iff_ne.mpr c53
          rw [hrt] at H
          cases H
/-- THE ONE PURE STATEMENT of gamplaw01_FoldBackwards: yours. -/
def gamplaw01_FoldBackwards.Pure : Prop := ∀ (l0 : List Int) (a1 : Int), l0.length ≤ maxLen → l0.length * 8 ≤ 140737488351232 → (∀ x ∈ l0, (Lit.int .i64 x).wf = true) → (Lit.int .u16 a1).wf = true → ∃ k, gamplaw01_FoldBackwards.f k l0 a1 = some true
theorem gamplaw01_FoldBackwards.walk (P : gamplaw01_FoldBackwards.Pure) (a0 : Option Addr) (len0 cap0 : Nat) (z0 : List Int) (a1 : Int) (w : World) (w0 : (a0 = none ∧ len0 = 0 ∧ cap0 = 0 ∧ z0 = []) ∨ ∃ x, a0 = some x ∧ len0 ≤ cap0 ∧ cap0 ≤ maxLen ∧ z0.length = cap0 ∧ (∀ i, i < z0.length → w.cell? (x.add i) = some (.int .i64 (z0.getD i 0))) ∧ ∀ n ∈ z0, (Lit.int .i64 n).wf = true) (y0 : len0 * 8 ≤ 140737488351232) (w1 : (Lit.int .u16 a1).wf = true) :
  Calls Try.prog 10 #[.slice a0 len0 cap0, .int .u16 a1] w fun e w' => e = .returned (.bool true) ∧ Below w.heap.size w w' := by
 obtain ⟨l0, rfl, hr0, hm0, hw0, hc0⟩ := ReadsInt.ofRowC w0
 obtain ⟨k, h⟩ := P l0 a1 hm0 y0 hw0 w1
 refine (gamplaw01_FoldBackwards.calls k _ _ l0 a1 true w (Kd.C_of_reads (d := (0 : Int)) (h1 := fun _ => rfl) hr0) hc0 h rfl).mono ?_
 rintro e w' ⟨rfl, hd⟩
 exact ⟨rfl, hd⟩
end Go.Proofs.Ytiknnpfdpecfdaa.Ox

/- The declarations of Oxx4 that the claim Qd needs. -/
import Derived.Test.YtiknnpfdpecfdaaQdTkP
import Derived.Test.YtiknnpfdpecfdaaQdOxx0
import Derived.Test.YtiknnpfdpecfdaaQdOxx1
import Derived.Test.YtiknnpfdpecfdaaQdZ6
namespace Go.Proofs.Ytiknnpfdpecfdaa.Ox
open Go.RowKit Go.Proofs.Ytiknnpfdpecfdaa.Own Go.Proofs.Ytiknnpfdpecfdaa.Gx Go.Proofs.YtiknnpfdpecfdaaW.PrintWords Go.Proofs.YtiknnpfdpecfdaaW.PrintLast Go.Proofs.YtiknnpfdpecfdaaW.PrintMore
attribute [local go_sem] max2_int min2_int max_two min_two max_three min_three max_four min_four
set_option linter.unusedVariables false
set_option linter.unusedSimpArgs false
mutual
def gamplaw01_FoldBijection.j0 : Nat → Int → List Int → Int → Bool → Option (Bool)
  | 0, _, _, _, _ => none
  | k + 1, x1, x5, x6, x32 => if x32 = true then (some false) else (if x6 = 0 then (none) else ((fold_At.f x5 (Int.tmod (wrap64 (x1)) x6)).bind fun bt159 => ((fold_Rank.f x5 bt159.1).bind fun bt163 => ((fold_At.f x5 (wrap64 ((Int.tmod (wrap64 (x1)) x6) + 1))).bind fun bt165 => (if bt159.2 = 0 then (if bt163.2 = 0 then (if bt163.1 = (Int.tmod (wrap64 (x1)) x6) then ((gampref01_Permutation.f k bt159.1 (x5.length : Int)).bind fun t169 => (if t169 = true then ((Gx.gampref01_Folds.f k x5 bt159.1 false).bind fun t170 => (gamplaw01_FoldBijection.j1 k x5 x6 (Int.tmod (wrap64 (x1)) x6) bt159.1 bt165.1 bt165.2 (!t170))) else (gamplaw01_FoldBijection.j1 k x5 x6 (Int.tmod (wrap64 (x1)) x6) bt159.1 bt165.1 bt165.2 true))) else (gamplaw01_FoldBijection.j1 k x5 x6 (Int.tmod (wrap64 (x1)) x6) bt159.1 bt165.1 bt165.2 true)) else (gamplaw01_FoldBijection.j1 k x5 x6 (Int.tmod (wrap64 (x1)) x6) bt159.1 bt165.1 bt165.2 true)) else (gamplaw01_FoldBijection.j1 k x5 x6 (Int.tmod (wrap64 (x1)) x6) bt159.1 bt165.1 bt165.2 true))))))
def gamplaw01_FoldBijection.j1 : Nat → List Int → Int → Int → List Int → List Int → Int → Bool → Option (Bool)
  | 0, _, _, _, _, _, _, _ => none
  | k + 1, x5, x6, x8, x9, x13, x14, x79 => if x79 = true then (some false) else (if (wrap64 (x8 + 1)) = x6 then (if x14 = 5 then (some ((x13.length : Int) == 0)) else (some false)) else (if x14 = 0 then (gamplaw01_FoldBijection.j2 k x5 x9 x13 ((x13.length : Int) != (x9.length : Int))) else (gamplaw01_FoldBijection.j2 k x5 x9 x13 true)))
def gamplaw01_FoldBijection.j2 : Nat → List Int → List Int → List Int → Bool → Option (Bool)
  | 0, _, _, _, _ => none
  | k + 1, x5, x9, x13, x99 => if x99 = true then (some false) else (gamplaw01_FoldBijection.l0 k x5 x9 x13 0)
def gamplaw01_FoldBijection.l0 : Nat → List Int → List Int → List Int → Int → Option (Bool)
  | 0, _, _, _, _ => none
  | k + 1, x5, x9, x13, x15 => if x15 < (x5.length : Int) then (if 0 ≤ x15 then (if x15 < (x9.length : Int) then (if x15 < (x13.length : Int) then (if (rd x9 x15) = (rd x13 x15) then (gamplaw01_FoldBijection.l0 k x5 x9 x13 (wrap64 (x15 + 1))) else (some (decide ((rd x9 x15) < (rd x13 x15))))) else (none)) else (none)) else (none)) else (some false)
end
def gamplaw01_FoldBijection.f (k : Nat) (l0 : List Int) (a1 : Int) : Option (Bool) := (gamplaw01_strip.f k l0 7 5).bind fun t153 => ((fold_Count.f t153).bind fun bt156 => (if bt156.2 = 0 then (if bt156.1 < 1 then (gamplaw01_FoldBijection.j0 k a1 t153 bt156.1 true) else ((gamplaw01_lives.f k).bind fun t158 => (gamplaw01_FoldBijection.j0 k a1 t153 bt156.1 (!t158)))) else (gamplaw01_FoldBijection.j0 k a1 t153 bt156.1 true)))
set_option maxHeartbeats 8000000 in
set_option maxRecDepth 100000 in
theorem gamplaw01_FoldBijection.calls (k : Nat) (A0 : Option Addr) (c0 : Nat) (l0 : List Int) (a1 : Int) (r : Bool) (w : World) (hr0 : Kd.C (Kd.int .i64) w A0 l0.length l0) (hc0 : l0.length ≤ c0) (h : gamplaw01_FoldBijection.f k l0 a1 = some r) (hrt : r = true) :
  Calls Try.prog 6 #[.slice A0 l0.length c0, .int .u16 a1] w fun e w' => e = .returned (.bool r) ∧ Below w.heap.size w w' := by
 have HR0 := Aside0.mk hr0
 have HC0 := Aside0.mk hc0
 clear hr0 hc0
 have HB := Aside0.mk (Below.refl w.heap.size w)
 have H : ((gamplaw01_strip.f k l0 7 5).bind fun t153 => ((fold_Count.f t153).bind fun bt156 => (if bt156.2 = 0 then (if bt156.1 < 1 then (gamplaw01_FoldBijection.j0 k a1 t153 bt156.1 true) else ((gamplaw01_lives.f k).bind fun t158 => (gamplaw01_FoldBijection.j0 k a1 t153 bt156.1 (!t158)))) else (gamplaw01_FoldBijection.j0 k a1 t153 bt156.1 true)))) = some r := h
 clear h
 replace H := Option.bind_eq_some_iff.mp H
 obtain ⟨t153, A30, H⟩ := H
 replace H : ((fold_Count.f t153).bind fun bt156 => (if bt156.2 = 0 then (if bt156.1 < 1 then (gamplaw01_FoldBijection.j0 k a1 t153 bt156.1 true) else ((gamplaw01_lives.f k).bind fun t158 => (gamplaw01_FoldBijection.j0 k a1 t153 bt156.1 (!t158)))) else (gamplaw01_FoldBijection.j0 k a1 t153 bt156.1 true))) = some r := H
 have A3 := Aside0.mk A30
 clear A30
 replace H := Option.bind_eq_some_iff.mp H
 obtain ⟨⟨t156, t157⟩, A40, H⟩ := H
 replace H : (if t157 = 0 then (if t156 < 1 then (gamplaw01_FoldBijection.j0 k a1 t153 t156 true) else ((gamplaw01_lives.f k).bind fun t158 => (gamplaw01_FoldBijection.j0 k a1 t153 t156 (!t158)))) else (gamplaw01_FoldBijection.j0 k a1 t153 t156 true)) = some r := H
 have A4 := Aside0.mk A40
 clear A40
 have HC5 := Aside0.mk H
 clear H
 go_enter Try.func6, Try.ntmps6
 go_upto_region 3 with (first | (go_at_call 28; (with_reducible refine (gamplaw01_strip.calls k _ _ l0 7 5 t153 _ ?side1 ?side2 A3.out).mono ?_); (case side1 => exact cl (HR0.out)); (case side2 => exact HC0.out); rintro e w6 ⟨v154, rfl, ho0, hb⟩; have n0_ := Aside0.mk (Kd.R_lower ho0 (below_size (bl HB))); have n1_ := Aside0.mk (below_step (bl HB) hb); clear HB; have HO155 := n0_; have HB := n1_; clear n0_ n1_; (try clear hb); (try clear hb2); (try clear hk); (try clear hi); (try clear ho0); obtain ⟨Ao7, co7, eo7⟩ := Kd.R_slice HO155.out; subst eo7) | (go_at_call 25; (with_reducible refine (fold_Count.calls _ _ t153 t156 t157 _ ?side1 ?side2 A4.out).mono ?_); (case side1 => exact cl ((Kd.R_reads' HO155.out).2.2)); (case side2 => exact (Kd.R_reads' HO155.out).2.1); rintro e w8 ⟨rfl, hb⟩; have n0_ := Aside0.mk (Kd.R_below (rl HO155) hb); have n1_ := Aside0.mk (below_step (bl HB) hb); clear HO155; clear HB; have HO155 := n0_; have HB := n1_; clear n0_ n1_; (try clear hb); (try clear hb2); (try clear hk); (try clear hi)))
 repeat (go_quiet (first | (go_at_call 28; (with_reducible refine (gamplaw01_strip.calls k _ _ l0 7 5 t153 _ ?side1 ?side2 A3.out).mono ?_); (case side1 => exact cl (HR0.out)); (case side2 => exact HC0.out); rintro e w6 ⟨v154, rfl, ho0, hb⟩; have n0_ := Aside0.mk (Kd.R_lower ho0 (below_size (bl HB))); have n1_ := Aside0.mk (below_step (bl HB) hb); clear HB; have HO155 := n0_; have HB := n1_; clear n0_ n1_; (try clear hb); (try clear hb2); (try clear hk); (try clear hi); (try clear ho0); obtain ⟨Ao7, co7, eo7⟩ := Kd.R_slice HO155.out; subst eo7) | (go_at_call 25; (with_reducible refine (fold_Count.calls _ _ t153 t156 t157 _ ?side1 ?side2 A4.out).mono ?_); (case side1 => exact cl ((Kd.R_reads' HO155.out).2.2)); (case side2 => exact (Kd.R_reads' HO155.out).2.1); rintro e w8 ⟨rfl, hb⟩; have n0_ := Aside0.mk (Kd.R_below (rl HO155) hb); have n1_ := Aside0.mk (below_step (bl HB) hb); clear HO155; clear HB; have HO155 := n0_; have HB := n1_; clear n0_ n1_; (try clear hb); (try clear hb2); (try clear hk); (try clear hi))); go_upto_region 3 with (first | (go_at_call 28; (with_reducible refine (gamplaw01_strip.calls k _ _ l0 7 5 t153 _ ?side1 ?side2 A3.out).mono ?_); (case side1 => exact cl (HR0.out)); (case side2 => exact HC0.out); rintro e w6 ⟨v154, rfl, ho0, hb⟩; have n0_ := Aside0.mk (Kd.R_lower ho0 (below_size (bl HB))); have n1_ := Aside0.mk (below_step (bl HB) hb); clear HB; have HO155 := n0_; have HB := n1_; clear n0_ n1_; (try clear hb); (try clear hb2); (try clear hk); (try clear hi); (try clear ho0); obtain ⟨Ao7, co7, eo7⟩ := Kd.R_slice HO155.out; subst eo7) | (go_at_call 25; (with_reducible refine (fold_Count.calls _ _ t153 t156 t157 _ ?side1 ?side2 A4.out).mono ?_); (case side1 => exact cl ((Kd.R_reads' HO155.out).2.2)); (case side2 => exact (Kd.R_reads' HO155.out).2.1); rintro e w8 ⟨rfl, hb⟩; have n0_ := Aside0.mk (Kd.R_below (rl HO155) hb); have n1_ := Aside0.mk (below_step (bl HB) hb); clear HO155; clear HB; have HO155 := n0_; have HB := n1_; clear n0_ n1_; (try clear hb); (try clear hb2); (try clear hk); (try clear hi))))
 (try simp only [Act.put, List.setIfInBounds_toArray, List.set_cons_zero, List.set_cons_succ])
 go_cut [32] (fun v32 wc => ∃ (kq : Nat) (x32_4 : Bool), v32 = .bool x32_4 ∧ Aside0 (gamplaw01_FoldBijection.j0 kq a1 t153 t156 x32_4 = some r) ∧ Aside0 (kq ≤ k) ∧ Aside0 (Kd.R (Kd.int .i64) 3 wc w.heap.size (fun _ => True) (.slice Ao7 t153.length co7) t153) ∧ Aside0 (Below w.heap.size w wc))
 case first =>
  have H := HC5.out
  clear HC5
  by_cases c9 : t157 = 0
  ·rw [if_pos c9] at H
   have c9b0 : (t157 == 0) = true := beq_iff_eq.mpr c9
   have c9b1 : (t157 != 0) = false := bne_eq_false_iff_eq.mpr c9
   clear c9
   (first | rw [c9b0] | (simp only [i64_w, i32_w]; rw [c9b0]) | skip)
   by_cases c10 : t156 < 1
   ·rw [if_pos c10] at H
    have c10b0 : decide (t156 < 1) = true := decide_eq_true c10
    clear c10
    have H' := Aside0.mk H
    clear H
    go_wp2
    repeat (go_quiet (fail); try go_wp2)
    go_meet
    case rel => exact ⟨_, (true), (by first | rfl | (simp; done) | (simp [*]; done)), H', ⟨by first | omega | exact Nat.le_refl _⟩, ⟨rl HO155⟩, ⟨bl HB⟩⟩
   ·rw [if_neg c10] at H
    have c10b0 : decide (t156 < 1) = false := decide_eq_false c10
    clear c10
    replace H := Option.bind_eq_some_iff.mp H
    obtain ⟨t158, A110, H⟩ := H
    replace H : (gamplaw01_FoldBijection.j0 k a1 t153 t156 (!t158)) = some r := H
    have A11 := Aside0.mk A110
    clear A110
    have H' := Aside0.mk H
    clear H
    go_wp2_with (first | (go_at_call 20; (with_reducible refine (gamplaw01_lives.calls k  t158 _ A11.out).mono ?_); rintro e w12 ⟨rfl, hb⟩; have n0_ := Aside0.mk (Kd.R_below (rl HO155) hb); have n1_ := Aside0.mk (below_step (bl HB) hb); clear HO155; clear HB; have HO155 := n0_; have HB := n1_; clear n0_ n1_; (try clear hb); (try clear hb2); (try clear hk); (try clear hi)))
    repeat (go_quiet (first | (go_at_call 20; (with_reducible refine (gamplaw01_lives.calls k  t158 _ A11.out).mono ?_); rintro e w12 ⟨rfl, hb⟩; have n0_ := Aside0.mk (Kd.R_below (rl HO155) hb); have n1_ := Aside0.mk (below_step (bl HB) hb); clear HO155; clear HB; have HO155 := n0_; have HB := n1_; clear n0_ n1_; (try clear hb); (try clear hb2); (try clear hk); (try clear hi))); try go_wp2_with (first | (go_at_call 20; (with_reducible refine (gamplaw01_lives.calls k  t158 _ A11.out).mono ?_); rintro e w12 ⟨rfl, hb⟩; have n0_ := Aside0.mk (Kd.R_below (rl HO155) hb); have n1_ := Aside0.mk (below_step (bl HB) hb); clear HO155; clear HB; have HO155 := n0_; have HB := n1_; clear n0_ n1_; (try clear hb); (try clear hb2); (try clear hk); (try clear hi))))
    go_meet
    case rel => exact ⟨_, (!t158), (by first | rfl | (simp; done) | (simp [*]; done)), H', ⟨by first | omega | exact Nat.le_refl _⟩, ⟨rl HO155⟩, ⟨bl HB⟩⟩
  ·rw [if_neg c9] at H
   have c9b0 : (t157 == 0) = false := beq_eq_false_iff_ne.mpr c9
   have c9b1 : (t157 != 0) = true := bne_iff_ne.mpr c9
   (first | rw [c9b0] | (simp only [i64_w, i32_w]; rw [c9b0]) | skip)
   have H' := Aside0.mk H
   clear H
   go_wp2
   repeat (go_quiet (fail); try go_wp2)
   go_meet
   case rel => exact ⟨_, (true), (by first | rfl | (simp; done) | (simp [*]; done)), H', ⟨by first | omega | exact Nat.le_refl _⟩, ⟨rl HO155⟩, ⟨bl HB⟩⟩
 case rest =>
  clear HC5
  try clear c1
  try clear p2
  try clear c6
  try clear c9
  try clear c9b0
  try clear c9b1
  try clear c10
  try clear c10b0
  obtain ⟨kq, x32_4, rfl, HA, HJ4, HO_5, HB⟩ := hcut
  cases kq with
  | zero => exact absurd HA.out (by simp [gamplaw01_FoldBijection.j0])
  | succ kj4 =>
   have H := HA.out
   clear HA
   simp only [gamplaw01_FoldBijection.j0] at H
   by_cases c13 : x32_4 = true
   ·subst c13
    have H1 : (some false) = some r := by rw [if_pos rfl] at H; exact H
    clear H
    have H := H1
    clear H1
    rw [hrt] at H
    cases H
   ·replace c13 := Bool.eq_false_iff.mpr c13
    subst c13
    have H1 : (if t156 = 0 then (none) else ((fold_At.f t153 (Int.tmod (wrap64 (a1)) t156)).bind fun bt159 => ((fold_Rank.f t153 bt159.1).bind fun bt163 => ((fold_At.f t153 (wrap64 ((Int.tmod (wrap64 (a1)) t156) + 1))).bind fun bt165 => (if bt159.2 = 0 then (if bt163.2 = 0 then (if bt163.1 = (Int.tmod (wrap64 (a1)) t156) then ((gampref01_Permutation.f kj4 bt159.1 (t153.length : Int)).bind fun t169 => (if t169 = true then ((Gx.gampref01_Folds.f kj4 t153 bt159.1 false).bind fun t170 => (gamplaw01_FoldBijection.j1 kj4 t153 t156 (Int.tmod (wrap64 (a1)) t156) bt159.1 bt165.1 bt165.2 (!t170))) else (gamplaw01_FoldBijection.j1 kj4 t153 t156 (Int.tmod (wrap64 (a1)) t156) bt159.1 bt165.1 bt165.2 true))) else (gamplaw01_FoldBijection.j1 kj4 t153 t156 (Int.tmod (wrap64 (a1)) t156) bt159.1 bt165.1 bt165.2 true)) else (gamplaw01_FoldBijection.j1 kj4 t153 t156 (Int.tmod (wrap64 (a1)) t156) bt159.1 bt165.1 bt165.2 true)) else (gamplaw01_FoldBijection.j1 kj4 t153 t156 (Int.tmod (wrap64 (a1)) t156) bt159.1 bt165.1 bt165.2 true)))))) = some r := by rw [if_neg (show ¬ (false = true) by decide)] at H; exact H
    clear H
    have H := H1
    clear H1
    by_cases c14 : t156 = 0
    ·rw [if_pos c14] at H
     exact absurd H (by simp)
    ·rw [if_neg c14] at H
     have c14b0 : (t156 == 0) = false := beq_eq_false_iff_ne.mpr c14
     have c14b1 : (t156 != 0) = true := bne_iff_ne.mpr c14
     replace H := Option.bind_eq_some_iff.mp H
     obtain ⟨⟨t159, t160⟩, A150, H⟩ := H
     replace H : ((fold_Rank.f t153 t159).bind fun bt163 => ((fold_At.f t153 (wrap64 ((Int.tmod (wrap64 (a1)) t156) + 1))).bind fun bt165 => (if t160 = 0 then (if bt163.2 = 0 then (if bt163.1 = (Int.tmod (wrap64 (a1)) t156) then ((gampref01_Permutation.f kj4 t159 (t153.length : Int)).bind fun t169 => (if t169 = true then ((Gx.gampref01_Folds.f kj4 t153 t159 false).bind fun t170 => (gamplaw01_FoldBijection.j1 kj4 t153 t156 (Int.tmod (wrap64 (a1)) t156) t159 bt165.1 bt165.2 (!t170))) else (gamplaw01_FoldBijection.j1 kj4 t153 t156 (Int.tmod (wrap64 (a1)) t156) t159 bt165.1 bt165.2 true))) else (gamplaw01_FoldBijection.j1 kj4 t153 t156 (Int.tmod (wrap64 (a1)) t156) t159 bt165.1 bt165.2 true)) else (gamplaw01_FoldBijection.j1 kj4 t153 t156 (Int.tmod (wrap64 (a1)) t156) t159 bt165.1 bt165.2 true)) else (gamplaw01_FoldBijection.j1 kj4 t153 t156 (Int.tmod (wrap64 (a1)) t156) t159 bt165.1 bt165.2 true)))) = some r := H
     have A15 := Aside0.mk A150
     clear A150
     replace H := Option.bind_eq_some_iff.mp H
     obtain ⟨⟨t163, t164⟩, A160, H⟩ := H
     replace H : ((fold_At.f t153 (wrap64 ((Int.tmod (wrap64 (a1)) t156) + 1))).bind fun bt165 => (if t160 = 0 then (if t164 = 0 then (if t163 = (Int.tmod (wrap64 (a1)) t156) then ((gampref01_Permutation.f kj4 t159 (t153.length : Int)).bind fun t169 => (if t169 = true then ((Gx.gampref01_Folds.f kj4 t153 t159 false).bind fun t170 => (gamplaw01_FoldBijection.j1 kj4 t153 t156 (Int.tmod (wrap64 (a1)) t156) t159 bt165.1 bt165.2 (!t170))) else (gamplaw01_FoldBijection.j1 kj4 t153 t156 (Int.tmod (wrap64 (a1)) t156) t159 bt165.1 bt165.2 true))) else (gamplaw01_FoldBijection.j1 kj4 t153 t156 (Int.tmod (wrap64 (a1)) t156) t159 bt165.1 bt165.2 true)) else (gamplaw01_FoldBijection.j1 kj4 t153 t156 (Int.tmod (wrap64 (a1)) t156) t159 bt165.1 bt165.2 true)) else (gamplaw01_FoldBijection.j1 kj4 t153 t156 (Int.tmod (wrap64 (a1)) t156) t159 bt165.1 bt165.2 true))) = some r := H
     have A16 := Aside0.mk A160
     clear A160
     replace H := Option.bind_eq_some_iff.mp H
     obtain ⟨⟨t165, t166⟩, A170, H⟩ := H
     replace H : (if t160 = 0 then (if t164 = 0 then (if t163 = (Int.tmod (wrap64 (a1)) t156) then ((gampref01_Permutation.f kj4 t159 (t153.length : Int)).bind fun t169 => (if t169 = true then ((Gx.gampref01_Folds.f kj4 t153 t159 false).bind fun t170 => (gamplaw01_FoldBijection.j1 kj4 t153 t156 (Int.tmod (wrap64 (a1)) t156) t159 t165 t166 (!t170))) else (gamplaw01_FoldBijection.j1 kj4 t153 t156 (Int.tmod (wrap64 (a1)) t156) t159 t165 t166 true))) else (gamplaw01_FoldBijection.j1 kj4 t153 t156 (Int.tmod (wrap64 (a1)) t156) t159 t165 t166 true)) else (gamplaw01_FoldBijection.j1 kj4 t153 t156 (Int.tmod (wrap64 (a1)) t156) t159 t165 t166 true)) else (gamplaw01_FoldBijection.j1 kj4 t153 t156 (Int.tmod (wrap64 (a1)) t156) t159 t165 t166 true)) = some r := H
     have A17 := Aside0.mk A170
     clear A170
     have HC18 := Aside0.mk H
     clear H
     go_upto_region 9 with (first | (go_at_call 26; (with_reducible refine (fold_At.calls _ _ t153 (Int.tmod (wrap64 (a1)) t156) t159 t160 _ ?side1 ?side2 A15.out).mono ?_); (case side1 => exact cl ((Kd.R_reads' HO_5.out).2.2)); (case side2 => exact (Kd.R_reads' HO_5.out).2.1); rintro e w19 ⟨v161, rfl, ho0, hb⟩; have n0_ := Aside0.mk (Kd.R_elder' (rl HO_5) (Kd.R_base ho0) hb); have n1_ := Aside0.mk (Kd.R_lower (Kd.R_new' ho0 (Kd.R_lt (rl HO_5))) (below_size (bl HB))); have n2_ := Aside0.mk (below_step (bl HB) hb); clear HO_5; clear HB; have HO_5 := n0_; have HO162 := n1_; have HB := n2_; clear n0_ n1_ n2_; (try clear hb); (try clear hb2); (try clear hk); (try clear hi); (try clear ho0); obtain ⟨Ao20, co20, eo20⟩ := Kd.R_slice HO162.out; subst eo20) | (go_at_call 29; (with_reducible refine (fold_Rank.calls _ _ t153 _ _ t159 t163 t164 _ ?side1 ?side2 ?side3 ?side4 A16.out).mono ?_); (case side1 => exact cl ((Kd.R_reads' HO_5.out).2.2)); (case side2 => exact (Kd.R_reads' HO_5.out).2.1); (case side3 => exact cl ((Kd.R_reads' HO162.out).2.2)); (case side4 => exact (Kd.R_reads' HO162.out).2.1); rintro e w21 ⟨rfl, hb⟩; have n0_ := Aside0.mk (Kd.R_below (rl HO_5) hb); have n1_ := Aside0.mk (Kd.R_below (rl HO162) hb); have n2_ := Aside0.mk (below_step (bl HB) hb); clear HO_5; clear HO162; clear HB; have HO_5 := n0_; have HO162 := n1_; have HB := n2_; clear n0_ n1_ n2_; (try clear hb); (try clear hb2); (try clear hk); (try clear hi)) | (go_at_call 26; (with_reducible refine (fold_At.calls _ _ t153 (wrap64 ((Int.tmod (wrap64 (a1)) t156) + 1)) t165 t166 _ ?side1 ?side2 A17.out).mono ?_); (case side1 => exact cl ((Kd.R_reads' HO_5.out).2.2)); (case side2 => exact (Kd.R_reads' HO_5.out).2.1); rintro e w22 ⟨v167, rfl, ho0, hb⟩; have n0_ := Aside0.mk (Kd.R_elder' (rl HO_5) (Kd.R_base ho0) hb); have n1_ := Aside0.mk (Kd.R_elder' (rl HO162) (Kd.R_base ho0) hb); have n2_ := Aside0.mk (Kd.R_lower (Kd.R_new' (Kd.R_new' ho0 (Kd.R_lt (rl HO_5))) (Kd.R_lt (rl HO162))) (below_size (bl HB))); have n3_ := Aside0.mk (below_step (bl HB) hb); clear HO_5; clear HO162; clear HB; have HO_5 := n0_; have HO162 := n1_; have HO168 := n2_; have HB := n3_; clear n0_ n1_ n2_ n3_; (try clear hb); (try clear hb2); (try clear hk); (try clear hi); (try clear ho0)))
     repeat (go_quiet (first | (go_at_call 26; (with_reducible refine (fold_At.calls _ _ t153 (Int.tmod (wrap64 (a1)) t156) t159 t160 _ ?side1 ?side2 A15.out).mono ?_); (case side1 => exact cl ((Kd.R_reads' HO_5.out).2.2)); (case side2 => exact (Kd.R_reads' HO_5.out).2.1); rintro e w19 ⟨v161, rfl, ho0, hb⟩; have n0_ := Aside0.mk (Kd.R_elder' (rl HO_5) (Kd.R_base ho0) hb); have n1_ := Aside0.mk (Kd.R_lower (Kd.R_new' ho0 (Kd.R_lt (rl HO_5))) (below_size (bl HB))); have n2_ := Aside0.mk (below_step (bl HB) hb); clear HO_5; clear HB; have HO_5 := n0_; have HO162 := n1_; have HB := n2_; clear n0_ n1_ n2_; (try clear hb); (try clear hb2); (try clear hk); (try clear hi); (try clear ho0); obtain ⟨Ao20, co20, eo20⟩ := Kd.R_slice HO162.out; subst eo20) | (go_at_call 29; (with_reducible refine (fold_Rank.calls _ _ t153 _ _ t159 t163 t164 _ ?side1 ?side2 ?side3 ?side4 A16.out).mono ?_); (case side1 => exact cl ((Kd.R_reads' HO_5.out).2.2)); (case side2 => exact (Kd.R_reads' HO_5.out).2.1); (case side3 => exact cl ((Kd.R_reads' HO162.out).2.2)); (case side4 => exact (Kd.R_reads' HO162.out).2.1); rintro e w21 ⟨rfl, hb⟩; have n0_ := Aside0.mk (Kd.R_below (rl HO_5) hb); have n1_ := Aside0.mk (Kd.R_below (rl HO162) hb); have n2_ := Aside0.mk (below_step (bl HB) hb); clear HO_5; clear HO162; clear HB; have HO_5 := n0_; have HO162 := n1_; have HB := n2_; clear n0_ n1_ n2_; (try clear hb); (try clear hb2); (try clear hk); (try clear hi)) | (go_at_call 26; (with_reducible refine (fold_At.calls _ _ t153 (wrap64 ((Int.tmod (wrap64 (a1)) t156) + 1)) t165 t166 _ ?side1 ?side2 A17.out).mono ?_); (case side1 => exact cl ((Kd.R_reads' HO_5.out).2.2)); (case side2 => exact (Kd.R_reads' HO_5.out).2.1); rintro e w22 ⟨v167, rfl, ho0, hb⟩; have n0_ := Aside0.mk (Kd.R_elder' (rl HO_5) (Kd.R_base ho0) hb); have n1_ := Aside0.mk (Kd.R_elder' (rl HO162) (Kd.R_base ho0) hb); have n2_ := Aside0.mk (Kd.R_lower (Kd.R_new' (Kd.R_new' ho0 (Kd.R_lt (rl HO_5))) (Kd.R_lt (rl HO162))) (below_size (bl HB))); have n3_ := Aside0.mk (below_step (bl HB) hb); clear HO_5; clear HO162; clear HB; have HO_5 := n0_; have HO162 := n1_; have HO168 := n2_; have HB := n3_; clear n0_ n1_ n2_ n3_; (try clear hb); (try clear hb2); (try clear hk); (try clear hi); (try clear ho0))); go_upto_region 9 with (first | (go_at_call 26; (with_reducible refine (fold_At.calls _ _ t153 (Int.tmod (wrap64 (a1)) t156) t159 t160 _ ?side1 ?side2 A15.out).mono ?_); (case side1 => exact cl ((Kd.R_reads' HO_5.out).2.2)); (case side2 => exact (Kd.R_reads' HO_5.out).2.1); rintro e w19 ⟨v161, rfl, ho0, hb⟩; have n0_ := Aside0.mk (Kd.R_elder' (rl HO_5) (Kd.R_base ho0) hb); have n1_ := Aside0.mk (Kd.R_lower (Kd.R_new' ho0 (Kd.R_lt (rl HO_5))) (below_size (bl HB))); have n2_ := Aside0.mk (below_step (bl HB) hb); clear HO_5; clear HB; have HO_5 := n0_; have HO162 := n1_; have HB := n2_; clear n0_ n1_ n2_; (try clear hb); (try clear hb2); (try clear hk); (try clear hi); (try clear ho0); obtain ⟨Ao20, co20, eo20⟩ := Kd.R_slice HO162.out; subst eo20) | (go_at_call 29; (with_reducible refine (fold_Rank.calls _ _ t153 _ _ t159 t163 t164 _ ?side1 ?side2 ?side3 ?side4 A16.out).mono ?_); (case side1 => exact cl ((Kd.R_reads' HO_5.out).2.2)); (case side2 => exact (Kd.R_reads' HO_5.out).2.1); (case side3 => exact cl ((Kd.R_reads' HO162.out).2.2)); (case side4 => exact (Kd.R_reads' HO162.out).2.1); rintro e w21 ⟨rfl, hb⟩; have n0_ := Aside0.mk (Kd.R_below (rl HO_5) hb); have n1_ := Aside0.mk (Kd.R_below (rl HO162) hb); have n2_ := Aside0.mk (below_step (bl HB) hb); clear HO_5; clear HO162; clear HB; have HO_5 := n0_; have HO162 := n1_; have HB := n2_; clear n0_ n1_ n2_; (try clear hb); (try clear hb2); (try clear hk); (try clear hi)) | (go_at_call 26; (with_reducible refine (fold_At.calls _ _ t153 (wrap64 ((Int.tmod (wrap64 (a1)) t156) + 1)) t165 t166 _ ?side1 ?side2 A17.out).mono ?_); (case side1 => exact cl ((Kd.R_reads' HO_5.out).2.2)); (case side2 => exact (Kd.R_reads' HO_5.out).2.1); rintro e w22 ⟨v167, rfl, ho0, hb⟩; have n0_ := Aside0.mk (Kd.R_elder' (rl HO_5) (Kd.R_base ho0) hb); have n1_ := Aside0.mk (Kd.R_elder' (rl HO162) (Kd.R_base ho0) hb); have n2_ := Aside0.mk (Kd.R_lower (Kd.R_new' (Kd.R_new' ho0 (Kd.R_lt (rl HO_5))) (Kd.R_lt (rl HO162))) (below_size (bl HB))); have n3_ := Aside0.mk (below_step (bl HB) hb); clear HO_5; clear HO162; clear HB; have HO_5 := n0_; have HO162 := n1_; have HO168 := n2_; have HB := n3_; clear n0_ n1_ n2_ n3_; (try clear hb); (try clear hb2); (try clear hk); (try clear hi); (try clear ho0))))
     (try simp only [Act.put, List.setIfInBounds_toArray, List.set_cons_zero, List.set_cons_succ])
     go_cut [79] (fun v79 wc => ∃ (kq : Nat) (x79_17 : Bool), v79 = .bool x79_17 ∧ Aside0 (gamplaw01_FoldBijection.j1 kq t153 t156 (Int.tmod (wrap64 (a1)) t156) t159 t165 t166 x79_17 = some r) ∧ Aside0 (kq ≤ kj4) ∧ Aside0 (Kd.R (Kd.int .i64) 3 wc w.heap.size (fun k_ => some k_ ≠ ((.slice Ao20 t159.length co20) : Value).ownBlock ∧ some k_ ≠ (v167 : Value).ownBlock) (.slice Ao7 t153.length co7) t153) ∧ Aside0 (Kd.R (Kd.int .i64) 3 wc w.heap.size (fun k_ => some k_ ≠ ((.slice Ao7 t153.length co7) : Value).ownBlock ∧ some k_ ≠ (v167 : Value).ownBlock) (.slice Ao20 t159.length co20) t159) ∧ Aside0 (Kd.R (Kd.int .i64) 3 wc w.heap.size (fun k_ => some k_ ≠ ((.slice Ao7 t153.length co7) : Value).ownBlock ∧ some k_ ≠ ((.slice Ao20 t159.length co20) : Value).ownBlock) v167 t165) ∧ Aside0 (Below w.heap.size w wc))
     case first =>
      have H := HC18.out
      clear HC18
      by_cases c23 : t160 = 0
      ·rw [if_pos c23] at H
       have c23b0 : (t160 == 0) = true := beq_iff_eq.mpr c23
       have c23b1 : (t160 != 0) = false := bne_eq_false_iff_eq.mpr c23
       clear c23
       (first | rw [c23b0] | (simp only [i64_w, i32_w]; rw [c23b0]) | skip)
       by_cases c24 : t164 = 0
       ·rw [if_pos c24] at H
        have c24b0 : (t164 == 0) = true := beq_iff_eq.mpr c24
        have c24b1 : (t164 != 0) = false := bne_eq_false_iff_eq.mpr c24
        clear c24
        by_cases c25 : t163 = (Int.tmod (wrap64 (a1)) t156)
        ·rw [if_pos c25] at H
         have c25b0 : (t163 == (Int.tmod (wrap64 (a1)) t156)) = true := beq_iff_eq.mpr c25
         have c25b1 : (t163 != (Int.tmod (wrap64 (a1)) t156)) = false := bne_eq_false_iff_eq.mpr c25
         clear c25
         replace H := Option.bind_eq_some_iff.mp H
         obtain ⟨t169, A260, H⟩ := H
         replace H : (if t169 = true then ((Gx.gampref01_Folds.f kj4 t153 t159 false).bind fun t170 => (gamplaw01_FoldBijection.j1 kj4 t153 t156 (Int.tmod (wrap64 (a1)) t156) t159 t165 t166 (!t170))) else (gamplaw01_FoldBijection.j1 kj4 t153 t156 (Int.tmod (wrap64 (a1)) t156) t159 t165 t166 true)) = some r := H
         have A26 := Aside0.mk A260
         clear A260
         by_cases c27 : t169 = true
         ·subst c27
          have H1 : ((Gx.gampref01_Folds.f kj4 t153 t159 false).bind fun t170 => (gamplaw01_FoldBijection.j1 kj4 t153 t156 (Int.tmod (wrap64 (a1)) t156) t159 t165 t166 (!t170))) = some r := by rw [if_pos rfl] at H; exact H
          clear H
          have H := H1
          clear H1
          replace H := Option.bind_eq_some_iff.mp H
          obtain ⟨t170, A280, H⟩ := H
          replace H : (gamplaw01_FoldBijection.j1 kj4 t153 t156 (Int.tmod (wrap64 (a1)) t156) t159 t165 t166 (!t170)) = some r := H
          have A28 := Aside0.mk A280
          clear A280
          have H' := Aside0.mk H
          clear H
          go_wp2_with (first | (go_at_call 30; (with_reducible refine (gampref01_Permutation.calls kj4 _ _ t159 (t153.length : Int) true _ ?side1 ?side2 A26.out).mono ?_); (case side1 => exact cl ((Kd.R_reads' HO162.out).2.2)); (case side2 => exact (Kd.R_reads' HO162.out).2.1); rintro e w' ⟨rfl, ⟨nd, rfl⟩⟩; (try first | exact ⟨rfl, _, World.drewN_drewN _ _ _⟩ | exact ⟨rfl, _, Eq.trans (World.drewN_drewN _ _ _) (congrArg (World.drewN _) (Nat.add_assoc _ _ _))⟩)) | (go_at_call 31; (with_reducible refine (Gx.gampref01_Folds.calls kj4 _ _ t153 _ _ t159 false t170 _ ?side1 ?side2 ?side3 ?side4 A28.out).mono ?_); (case side1 => exact cl ((Kd.R_reads' HO_5.out).2.2)); (case side2 => exact (Kd.R_reads' HO_5.out).2.1); (case side3 => exact cl ((Kd.R_reads' HO162.out).2.2)); (case side4 => exact (Kd.R_reads' HO162.out).2.1); rintro e w29 ⟨rfl, hb⟩; have n0_ := Aside0.mk (Kd.R_below (rl HO_5) hb); have n1_ := Aside0.mk (Kd.R_below (rl HO162) hb); have n2_ := Aside0.mk (Kd.R_below (rl HO168) hb); have n3_ := Aside0.mk (below_step (bl HB) hb); clear HO_5; clear HO162; clear HO168; clear HB; have HO_5 := n0_; have HO162 := n1_; have HO168 := n2_; have HB := n3_; clear n0_ n1_ n2_ n3_; (try clear hb); (try clear hb2); (try clear hk); (try clear hi)))
          repeat (go_quiet (first | (go_at_call 30; (with_reducible refine (gampref01_Permutation.calls kj4 _ _ t159 (t153.length : Int) true _ ?side1 ?side2 A26.out).mono ?_); (case side1 => exact cl ((Kd.R_reads' HO162.out).2.2)); (case side2 => exact (Kd.R_reads' HO162.out).2.1); rintro e w' ⟨rfl, ⟨nd, rfl⟩⟩; (try first | exact ⟨rfl, _, World.drewN_drewN _ _ _⟩ | exact ⟨rfl, _, Eq.trans (World.drewN_drewN _ _ _) (congrArg (World.drewN _) (Nat.add_assoc _ _ _))⟩)) | (go_at_call 31; (with_reducible refine (Gx.gampref01_Folds.calls kj4 _ _ t153 _ _ t159 false t170 _ ?side1 ?side2 ?side3 ?side4 A28.out).mono ?_); (case side1 => exact cl ((Kd.R_reads' HO_5.out).2.2)); (case side2 => exact (Kd.R_reads' HO_5.out).2.1); (case side3 => exact cl ((Kd.R_reads' HO162.out).2.2)); (case side4 => exact (Kd.R_reads' HO162.out).2.1); rintro e w29 ⟨rfl, hb⟩; have n0_ := Aside0.mk (Kd.R_below (rl HO_5) hb); have n1_ := Aside0.mk (Kd.R_below (rl HO162) hb); have n2_ := Aside0.mk (Kd.R_below (rl HO168) hb); have n3_ := Aside0.mk (below_step (bl HB) hb); clear HO_5; clear HO162; clear HO168; clear HB; have HO_5 := n0_; have HO162 := n1_; have HO168 := n2_; have HB := n3_; clear n0_ n1_ n2_ n3_; (try clear hb); (try clear hb2); (try clear hk); (try clear hi))); try go_wp2_with (first | (go_at_call 30; (with_reducible refine (gampref01_Permutation.calls kj4 _ _ t159 (t153.length : Int) true _ ?side1 ?side2 A26.out).mono ?_); (case side1 => exact cl ((Kd.R_reads' HO162.out).2.2)); (case side2 => exact (Kd.R_reads' HO162.out).2.1); rintro e w' ⟨rfl, ⟨nd, rfl⟩⟩; (try first | exact ⟨rfl, _, World.drewN_drewN _ _ _⟩ | exact ⟨rfl, _, Eq.trans (World.drewN_drewN _ _ _) (congrArg (World.drewN _) (Nat.add_assoc _ _ _))⟩)) | (go_at_call 31; (with_reducible refine (Gx.gampref01_Folds.calls kj4 _ _ t153 _ _ t159 false t170 _ ?side1 ?side2 ?side3 ?side4 A28.out).mono ?_); (case side1 => exact cl ((Kd.R_reads' HO_5.out).2.2)); (case side2 => exact (Kd.R_reads' HO_5.out).2.1); (case side3 => exact cl ((Kd.R_reads' HO162.out).2.2)); (case side4 => exact (Kd.R_reads' HO162.out).2.1); rintro e w29 ⟨rfl, hb⟩; have n0_ := Aside0.mk (Kd.R_below (rl HO_5) hb); have n1_ := Aside0.mk (Kd.R_below (rl HO162) hb); have n2_ := Aside0.mk (Kd.R_below (rl HO168) hb); have n3_ := Aside0.mk (below_step (bl HB) hb); clear HO_5; clear HO162; clear HO168; clear HB; have HO_5 := n0_; have HO162 := n1_; have HO168 := n2_; have HB := n3_; clear n0_ n1_ n2_ n3_; (try clear hb); (try clear hb2); (try clear hk); (try clear hi))))
          go_meet
          case rel => exact ⟨_, (!t170), (by first | rfl | (simp; done) | (simp [*]; done)), H', ⟨by have := HJ4.out; first | omega | exact Nat.le_refl _⟩, ⟨by (with_reducible repeat (first | apply Kd.R_alloc | apply Kd.R_drewN | apply Kd.R_drew)); exact Kd.R_mono HO_5.out (fun _ hk => ⟨hk.1.2, hk.2⟩)⟩, ⟨by (with_reducible repeat (first | apply Kd.R_alloc | apply Kd.R_drewN | apply Kd.R_drew)); exact Kd.R_mono HO162.out (fun _ hk => ⟨hk.1.2, hk.2⟩)⟩, ⟨by (with_reducible repeat (first | apply Kd.R_alloc | apply Kd.R_drewN | apply Kd.R_drew)); exact Kd.R_mono HO168.out (fun _ hk => ⟨hk.1.2, hk.2⟩)⟩, ⟨bl HB⟩⟩
         ·replace c27 := Bool.eq_false_iff.mpr c27
          subst c27
          have H1 : (gamplaw01_FoldBijection.j1 kj4 t153 t156 (Int.tmod (wrap64 (a1)) t156) t159 t165 t166 true) = some r := by rw [if_neg (show ¬ (false = true) by decide)] at H; exact H
          clear H
          have H := H1
          clear H1
          have H' := Aside0.mk H
          clear H
          go_wp2_with (first | (go_at_call 30; (with_reducible refine (gampref01_Permutation.calls kj4 _ _ t159 (t153.length : Int) false _ ?side1 ?side2 A26.out).mono ?_); (case side1 => exact cl ((Kd.R_reads' HO162.out).2.2)); (case side2 => exact (Kd.R_reads' HO162.out).2.1); rintro e w' ⟨rfl, ⟨nd, rfl⟩⟩; (try first | exact ⟨rfl, _, World.drewN_drewN _ _ _⟩ | exact ⟨rfl, _, Eq.trans (World.drewN_drewN _ _ _) (congrArg (World.drewN _) (Nat.add_assoc _ _ _))⟩)))
          repeat (go_quiet (first | (go_at_call 30; (with_reducible refine (gampref01_Permutation.calls kj4 _ _ t159 (t153.length : Int) false _ ?side1 ?side2 A26.out).mono ?_); (case side1 => exact cl ((Kd.R_reads' HO162.out).2.2)); (case side2 => exact (Kd.R_reads' HO162.out).2.1); rintro e w' ⟨rfl, ⟨nd, rfl⟩⟩; (try first | exact ⟨rfl, _, World.drewN_drewN _ _ _⟩ | exact ⟨rfl, _, Eq.trans (World.drewN_drewN _ _ _) (congrArg (World.drewN _) (Nat.add_assoc _ _ _))⟩))); try go_wp2_with (first | (go_at_call 30; (with_reducible refine (gampref01_Permutation.calls kj4 _ _ t159 (t153.length : Int) false _ ?side1 ?side2 A26.out).mono ?_); (case side1 => exact cl ((Kd.R_reads' HO162.out).2.2)); (case side2 => exact (Kd.R_reads' HO162.out).2.1); rintro e w' ⟨rfl, ⟨nd, rfl⟩⟩; (try first | exact ⟨rfl, _, World.drewN_drewN _ _ _⟩ | exact ⟨rfl, _, Eq.trans (World.drewN_drewN _ _ _) (congrArg (World.drewN _) (Nat.add_assoc _ _ _))⟩))))
          go_meet
          case rel => exact ⟨_, (true), (by first | rfl | (simp; done) | (simp [*]; done)), H', ⟨by have := HJ4.out; first | omega | exact Nat.le_refl _⟩, ⟨by (with_reducible repeat (first | apply Kd.R_alloc | apply Kd.R_drewN | apply Kd.R_drew)); exact Kd.R_mono HO_5.out (fun _ hk => ⟨hk.1.2, hk.2⟩)⟩, ⟨by (with_reducible repeat (first | apply Kd.R_alloc | apply Kd.R_drewN | apply Kd.R_drew)); exact Kd.R_mono HO162.out (fun _ hk => ⟨hk.1.2, hk.2⟩)⟩, ⟨by (with_reducible repeat (first | apply Kd.R_alloc | apply Kd.R_drewN | apply Kd.R_drew)); exact Kd.R_mono HO168.out (fun _ hk => ⟨hk.1.2, hk.2⟩)⟩, ⟨bl HB⟩⟩
        ·rw [if_neg c25] at H
         have c25b0 : (t163 == (Int.tmod (wrap64 (a1)) t156)) = false := beq_eq_false_iff_ne.mpr c25
         have c25b1 : (t163 != (Int.tmod (wrap64 (a1)) t156)) = true := bne_iff_ne.mpr c25
         have H' := Aside0.mk H
         clear H
         go_wp2
         repeat (go_quiet (fail); try go_wp2)
         go_meet
         case rel => exact ⟨_, (true), (by first | rfl | (simp; done) | (simp [*]; done)), H', ⟨by have := HJ4.out; first | omega | exact Nat.le_refl _⟩, ⟨by (with_reducible repeat (first | apply Kd.R_alloc | apply Kd.R_drewN | apply Kd.R_drew)); exact Kd.R_mono HO_5.out (fun _ hk => ⟨hk.1.2, hk.2⟩)⟩, ⟨by (with_reducible repeat (first | apply Kd.R_alloc | apply Kd.R_drewN | apply Kd.R_drew)); exact Kd.R_mono HO162.out (fun _ hk => ⟨hk.1.2, hk.2⟩)⟩, ⟨by (with_reducible repeat (first | apply Kd.R_alloc | apply Kd.R_drewN | apply Kd.R_drew)); exact Kd.R_mono HO168.out (fun _ hk => ⟨hk.1.2, hk.2⟩)⟩, ⟨bl HB⟩⟩
       ·rw [if_neg c24] at H
        have c24b0 : (t164 == 0) = false := beq_eq_false_iff_ne.mpr c24
        have c24b1 : (t164 != 0) = true := bne_iff_ne.mpr c24
        have H' := Aside0.mk H
        clear H
        go_wp2
        repeat (go_quiet (fail); try go_wp2)
        go_meet
        case rel => exact ⟨_, (true), (by first | rfl | (simp; done) | (simp [*]; done)), H', ⟨by have := HJ4.out; first | omega | exact Nat.le_refl _⟩, ⟨by (with_reducible repeat (first | apply Kd.R_alloc | apply Kd.R_drewN | apply Kd.R_drew)); exact Kd.R_mono HO_5.out (fun _ hk => ⟨hk.1.2, hk.2⟩)⟩, ⟨by (with_reducible repeat (first | apply Kd.R_alloc | apply Kd.R_drewN | apply Kd.R_drew)); exact Kd.R_mono HO162.out (fun _ hk => ⟨hk.1.2, hk.2⟩)⟩, ⟨by (with_reducible repeat (first | apply Kd.R_alloc | apply Kd.R_drewN | apply Kd.R_drew)); exact Kd.R_mono HO168.out (fun _ hk => ⟨hk.1.2, hk.2⟩)⟩, ⟨bl HB⟩⟩
      ·rw [if_neg c23] at H
       have c23b0 : (t160 == 0) = false := beq_eq_false_iff_ne.mpr c23
       have c23b1 : (t160 != 0) = true := bne_iff_ne.mpr c23
       (first | rw [c23b0] | (simp only [i64_w, i32_w]; rw [c23b0]) | skip)
       have H' := Aside0.mk H
       clear H
       go_wp2
       repeat (go_quiet (fail); try go_wp2)
       go_meet
       case rel => exact ⟨_, (true), (by first | rfl | (simp; done) | (simp [*]; done)), H', ⟨by have := HJ4.out; first | omega | exact Nat.le_refl _⟩, ⟨by (with_reducible repeat (first | apply Kd.R_alloc | apply Kd.R_drewN | apply Kd.R_drew)); exact Kd.R_mono HO_5.out (fun _ hk => ⟨hk.1.2, hk.2⟩)⟩, ⟨by (with_reducible repeat (first | apply Kd.R_alloc | apply Kd.R_drewN | apply Kd.R_drew)); exact Kd.R_mono HO162.out (fun _ hk => ⟨hk.1.2, hk.2⟩)⟩, ⟨by (with_reducible repeat (first | apply Kd.R_alloc | apply Kd.R_drewN | apply Kd.R_drew)); exact Kd.R_mono HO168.out (fun _ hk => ⟨hk.1.2, hk.2⟩)⟩, ⟨bl HB⟩⟩
     case rest =>
      clear HC18
      try clear c1
      try clear c2
      try clear p2
      try clear c6
      try clear p6
      try clear c9
      try clear c9b0
      try clear c9b1
      try clear c10
      try clear c10b0
      try clear c13
      try clear c14
      try clear c14b0
      try clear c14b1
      try clear c23
      try clear c23b0
      try clear c23b1
      try clear c24
      try clear c24b0
      try clear c24b1
      try clear c25
      try clear c25b0
      try clear c25b1
      try clear c27
      try clear p2
      obtain ⟨kq, x79_17, rfl, HA, HJ17, HO_5, HO_9, HO_13, HB⟩ := hcut
      cases kq with
      | zero => exact absurd HA.out (by simp [gamplaw01_FoldBijection.j1])
      | succ kj17 =>
       have H := HA.out
       clear HA
       simp only [gamplaw01_FoldBijection.j1] at H
       by_cases c30 : x79_17 = true
       ·subst c30
        have H1 : (some false) = some r := by rw [if_pos rfl] at H; exact H
        clear H
        have H := H1
        clear H1
        rw [hrt] at H
        cases H
       ·replace c30 := Bool.eq_false_iff.mpr c30
        subst c30
        have H1 : (if (wrap64 ((Int.tmod (wrap64 (a1)) t156) + 1)) = t156 then (if t166 = 5 then (some ((t165.length : Int) == 0)) else (some false)) else (if t166 = 0 then (gamplaw01_FoldBijection.j2 kj17 t153 t159 t165 ((t165.length : Int) != (t159.length : Int))) else (gamplaw01_FoldBijection.j2 kj17 t153 t159 t165 true))) = some r := by rw [if_neg (show ¬ (false = true) by decide)] at H; exact H
        clear H
        have H := H1
        clear H1
        by_cases c31 : (wrap64 ((Int.tmod (wrap64 (a1)) t156) + 1)) = t156
        ·rw [if_pos c31] at H
         have c31b0 : ((wrap64 ((Int.tmod (wrap64 (a1)) t156) + 1)) == t156) = true := beq_iff_eq.mpr c31
         have c31b1 : ((wrap64 ((Int.tmod (wrap64 (a1)) t156) + 1)) != t156) = false := bne_eq_false_iff_eq.mpr c31
         clear c31
         by_cases c32 : t166 = 5
         ·rw [if_pos c32] at H
          have c32b0 : (t166 == 5) = true := beq_iff_eq.mpr c32
          have c32b1 : (t166 != 5) = false := bne_eq_false_iff_eq.mpr c32
          clear c32
          obtain rfl := Option.some.inj H
          obtain ⟨Ao33, co33, eo33⟩ := Kd.R_slice HO_13.out
          subst eo33
          go_wp2
          repeat (go_quiet (fail); try go_wp2)
          go_ret
          exact ⟨by first | rfl | (simp [errW_none, errW_some] <;> rfl) | (simp [*, errW_none, errW_some] <;> rfl), by repeat (first | (with_reducible first | exact HB.out | apply below_alloc | apply pw_below_drewN | apply below_drew1) | exact HB.out)⟩
         ·rw [if_neg c32] at H
          have c32b0 : (t166 == 5) = false := beq_eq_false_iff_ne.mpr c32
          have c32b1 : (t166 != 5) = true := bne_iff_ne.mpr c32
          rw [hrt] at H
          cases H
        ·rw [if_neg c31] at H
         have c31b0 : ((wrap64 ((Int.tmod (wrap64 (a1)) t156) + 1)) == t156) = false := beq_eq_false_iff_ne.mpr c31
         have c31b1 : ((wrap64 ((Int.tmod (wrap64 (a1)) t156) + 1)) != t156) = true := bne_iff_ne.mpr c31
         have HC34 := Aside0.mk H
         clear H
         go_upto_region 13 with (fail)
         repeat (go_quiet (fail); go_upto_region 13 with (fail))
         go_cut [99] (fun v99 wc => ∃ (kq : Nat) (x99_33 : Bool), v99 = .bool x99_33 ∧ Aside0 (gamplaw01_FoldBijection.j2 kq t153 t159 t165 x99_33 = some r) ∧ Aside0 (kq ≤ kj17) ∧ Aside0 (Kd.R (Kd.int .i64) 3 wc w.heap.size (fun k_ => some k_ ≠ ((.slice Ao20 t159.length co20) : Value).ownBlock ∧ some k_ ≠ (v167 : Value).ownBlock) (.slice Ao7 t153.length co7) t153) ∧ Aside0 (Kd.R (Kd.int .i64) 3 wc w.heap.size (fun k_ => some k_ ≠ ((.slice Ao7 t153.length co7) : Value).ownBlock ∧ some k_ ≠ (v167 : Value).ownBlock) (.slice Ao20 t159.length co20) t159) ∧ Aside0 (Kd.R (Kd.int .i64) 3 wc w.heap.size (fun k_ => some k_ ≠ ((.slice Ao7 t153.length co7) : Value).ownBlock ∧ some k_ ≠ ((.slice Ao20 t159.length co20) : Value).ownBlock) v167 t165) ∧ Aside0 (Below w.heap.size w wc))
         case first =>
          have H := HC34.out
          clear HC34
          by_cases c35 : t166 = 0
          ·rw [if_pos c35] at H
           have c35b0 : (t166 == 0) = true := beq_iff_eq.mpr c35
           have c35b1 : (t166 != 0) = false := bne_eq_false_iff_eq.mpr c35
           clear c35
           (first | rw [c35b0] | (simp only [i64_w, i32_w]; rw [c35b0]) | skip)
           have H' := Aside0.mk H
           clear H
           obtain ⟨Ao36, co36, eo36⟩ := Kd.R_slice HO_13.out
           subst eo36
           go_wp2
           repeat (go_quiet (fail); try go_wp2)
           go_meet
           case rel => exact ⟨_, (((t165.length : Int) != (t159.length : Int))), (by first | rfl | (simp; done) | (simp [*]; done)), H', ⟨by have := HJ4.out; have := HJ17.out; first | omega | exact Nat.le_refl _⟩, ⟨rl HO_5⟩, ⟨rl HO_9⟩, ⟨rl HO_13⟩, ⟨bl HB⟩⟩
          ·rw [if_neg c35] at H
           have c35b0 : (t166 == 0) = false := beq_eq_false_iff_ne.mpr c35
           have c35b1 : (t166 != 0) = true := bne_iff_ne.mpr c35
           (first | rw [c35b0] | (simp only [i64_w, i32_w]; rw [c35b0]) | skip)
           have H' := Aside0.mk H
           clear H
           go_wp2
           repeat (go_quiet (fail); try go_wp2)
           go_meet
           case rel => exact ⟨_, (true), (by first | rfl | (simp; done) | (simp [*]; done)), H', ⟨by have := HJ4.out; have := HJ17.out; first | omega | exact Nat.le_refl _⟩, ⟨rl HO_5⟩, ⟨rl HO_9⟩, ⟨rl HO_13⟩, ⟨bl HB⟩⟩
         case rest =>
          clear HC34
          try clear c1
          try clear c2
          try clear p2
          try clear c3
          try clear c6
          try clear p6
          try clear c9
          try clear c9b0
          try clear c9b1
          try clear c10
          try clear c10b0
          try clear c13
          try clear c14
          try clear c14b0
          try clear c14b1
          try clear c23
          try clear c23b0
          try clear c23b1
          try clear c24
          try clear c24b0
          try clear c24b1
          try clear c25
          try clear c25b0
          try clear c25b1
          try clear c27
          try clear c30
          try clear c31
          try clear c31b0
          try clear c31b1
          try clear c32
          try clear c32b0
          try clear c32b1
          try clear c35
          try clear c35b0
          try clear c35b1
          try clear p2
          try clear p6
          obtain ⟨kq, x99_33, rfl, HA, HJ33, HO_5, HO_9, HO_13, HB⟩ := hcut
          cases kq with
          | zero => exact absurd HA.out (by simp [gamplaw01_FoldBijection.j2])
          | succ kj33 =>
           have H := HA.out
           clear HA
           simp only [gamplaw01_FoldBijection.j2] at H
           by_cases c37 : x99_33 = true
           ·subst c37
            have H1 : (some false) = some r := by rw [if_pos rfl] at H; exact H
            clear H
            have H := H1
            clear H1
            rw [hrt] at H
            cases H
           ·replace c37 := Bool.eq_false_iff.mpr c37
            subst c37
            have H1 : (gamplaw01_FoldBijection.l0 kj33 t153 t159 t165 0) = some r := by rw [if_neg (show ¬ (false = true) by decide)] at H; exact H
            clear H
            have H := H1
            clear H1
            have H' := Aside0.mk H
            clear H
            go_wp2
            repeat (go_quiet (fail); try go_wp2)
            go_loopg [15] kj33 (fun kq v15 w' => ∃ (x15_4 : Int), v15 = .int .i64 x15_4 ∧ Aside0 (gamplaw01_FoldBijection.l0 kq t153 t159 t165 x15_4 = some r) ∧ Aside0 (kq ≤ kj33) ∧ Aside0 (Kd.R (Kd.int .i64) 3 w' w.heap.size (fun k_ => some k_ ≠ ((.slice Ao20 t159.length co20) : Value).ownBlock ∧ some k_ ≠ (v167 : Value).ownBlock) (.slice Ao7 t153.length co7) t153) ∧ Aside0 (Kd.R (Kd.int .i64) 3 w' w.heap.size (fun k_ => some k_ ≠ ((.slice Ao7 t153.length co7) : Value).ownBlock ∧ some k_ ≠ (v167 : Value).ownBlock) (.slice Ao20 t159.length co20) t159) ∧ Aside0 (Kd.R (Kd.int .i64) 3 w' w.heap.size (fun k_ => some k_ ≠ ((.slice Ao7 t153.length co7) : Value).ownBlock ∧ some k_ ≠ ((.slice Ao20 t159.length co20) : Value).ownBlock) v167 t165) ∧ Aside0 (Below w.heap.size w w'))
            case atStart => exact ⟨(0), (by first | rfl | (simp; done) | (simp [*]; done)), H', ⟨Nat.le_refl _⟩, ⟨rl HO_5⟩, ⟨rl HO_9⟩, ⟨rl HO_13⟩, ⟨bl HB⟩⟩
            case round =>
             clear H'
             try clear c1
             try clear c2
             try clear p2
             try clear c3
             try clear c6
             try clear p6
             try clear c9
             try clear c9b0
             try clear c9b1
             try clear c10
             try clear c10b0
             try clear c13
             try clear c14
             try clear c14b0
             try clear c14b1
             try clear c23
             try clear c23b0
             try clear c23b1
             try clear c24
             try clear c24b0
             try clear c24b1
             try clear c25
             try clear c25b0
             try clear c25b1
             try clear c27
             try clear c30
             try clear c31
             try clear c31b0
             try clear c31b1
             try clear c32
             try clear c32b0
             try clear c32b1
             try clear c35
             try clear c35b0
             try clear c35b1
             try clear c37
             try clear p2
             try clear p6
             obtain ⟨x15_4, rfl, HA, HK4, HO_5, HO_9, HO_13, HB⟩ := hrel
             cases gk with
             | zero => exact absurd HA.out (by simp [gamplaw01_FoldBijection.l0])
             | succ k4 =>
              have H := HA.out
              clear HA
              simp only [gamplaw01_FoldBijection.l0] at H
              by_cases c38 : x15_4 < (t153.length : Int)
              ·rw [if_pos c38] at H
               have c38b0 : decide (x15_4 < (t153.length : Int)) = true := decide_eq_true c38
               clear c38
               by_cases c39 : 0 ≤ x15_4
               ·rw [if_pos c39] at H
                have c39b0 : decide (0 ≤ x15_4) = true := decide_eq_true c39
                clear c39
                by_cases c40 : x15_4 < (t159.length : Int)
                ·rw [if_pos c40] at H
                 have c40b0 : decide (x15_4 < (t159.length : Int)) = true := decide_eq_true c40
                 clear c40
                 by_cases c41 : x15_4 < (t165.length : Int)
                 ·rw [if_pos c41] at H
                  have c41b0 : decide (x15_4 < (t165.length : Int)) = true := decide_eq_true c41
                  clear c41
                  by_cases c42 : (rd t159 x15_4) = (rd t165 x15_4)
                  ·rw [if_pos c42] at H
                   have c42b0 : ((rd t159 x15_4) == (rd t165 x15_4)) = true := beq_iff_eq.mpr c42
                   have c42b1 : ((rd t159 x15_4) != (rd t165 x15_4)) = false := bne_eq_false_iff_eq.mpr c42
                   clear c42
                   have H' := Aside0.mk H
                   clear H
                   have p171 : 0 ≤ (x15_4 : Int) := ofd
                   have q171 : x15_4 < (t159.length : Int) := ofd
                   obtain ⟨ad171, e171, hx171_0⟩ := Kd.at_int (Kd.R_reads' HO_9.out).2.2 x15_4 p171 q171
                   cases e171
                   replace p171 := eq_true p171
                   replace q171 := eq_true q171
                   obtain ⟨Ao43, co43, eo43⟩ := Kd.R_slice HO_13.out
                   subst eo43
                   have p172 : 0 ≤ (x15_4 : Int) := ofd
                   have q172 : x15_4 < (t165.length : Int) := ofd
                   obtain ⟨ad172, e172, hx172_0⟩ := Kd.at_int (Kd.R_reads' HO_13.out).2.2 x15_4 p172 q172
                   cases e172
                   replace p172 := eq_true p172
                   replace q172 := eq_true q172
                   go_wp2
                   repeat (go_quiet (fail); try go_wp2)
                   go_roundg k4
                   case measure => have := HJ4.out; have := HJ17.out; have := HJ33.out; have := HK4.out; omega
                   case rel => exact ⟨(wrap64 (x15_4 + 1)), (by first | rfl | (simp; done) | (simp [*]; done)), H', ⟨by have := HJ4.out; have := HJ17.out; have := HJ33.out; have := HK4.out; omega⟩, ⟨rl HO_5⟩, ⟨rl HO_9⟩, ⟨rl HO_13⟩, ⟨bl HB⟩⟩
                  ·rw [if_neg c42] at H
                   have c42b0 : ((rd t159 x15_4) == (rd t165 x15_4)) = false := beq_eq_false_iff_ne.mpr c42
                   have c42b1 : ((rd t159 x15_4) != (rd t165 x15_4)) = true := bne_iff_ne.mpr c42
                   obtain rfl := Option.some.inj H
                   have p171 : 0 ≤ (x15_4 : Int) := ofd
                   have q171 : x15_4 < (t159.length : Int) := ofd
                   obtain ⟨ad171, e171, hx171_0⟩ := Kd.at_int (Kd.R_reads' HO_9.out).2.2 x15_4 p171 q171
                   cases e171
                   replace p171 := eq_true p171
                   replace q171 := eq_true q171
                   obtain ⟨Ao43, co43, eo43⟩ := Kd.R_slice HO_13.out
                   subst eo43
                   have p172 : 0 ≤ (x15_4 : Int) := ofd
                   have q172 : x15_4 < (t165.length : Int) := ofd
                   obtain ⟨ad172, e172, hx172_0⟩ := Kd.at_int (Kd.R_reads' HO_13.out).2.2 x15_4 p172 q172
                   cases e172
                   replace p172 := eq_true p172
                   replace q172 := eq_true q172
                   go_wp2
                   repeat (go_quiet (fail); try go_wp2)
                   go_ret
                   exact ⟨by first | rfl | (simp [*]; done), bl HB⟩
                 ·rw [if_neg c41] at H
                  exact absurd H (by simp)
                ·rw [if_neg c40] at H
                 exact absurd H (by simp)
               ·rw [if_neg c39] at H
                exact absurd H (by simp)
              ·rw [if_neg c38] at H
               have c38b0 : decide (x15_4 < (t153.length : Int)) = false := decide_eq_false c38
               clear c38
               rw [hrt] at H
               cases H
/-- THE ONE PURE STATEMENT of gamplaw01_FoldBijection: yours. -/
def gamplaw01_FoldBijection.Pure : Prop := ∀ (l0 : List Int) (a1 : Int), l0.length ≤ maxLen → l0.length * 8 ≤ 140737488351232 → (∀ x ∈ l0, (Lit.int .i64 x).wf = true) → (Lit.int .u16 a1).wf = true → ∃ k, gamplaw01_FoldBijection.f k l0 a1 = some true
theorem gamplaw01_FoldBijection.walk (P : gamplaw01_FoldBijection.Pure) (a0 : Option Addr) (len0 cap0 : Nat) (z0 : List Int) (a1 : Int) (w : World) (w0 : (a0 = none ∧ len0 = 0 ∧ cap0 = 0 ∧ z0 = []) ∨ ∃ x, a0 = some x ∧ len0 ≤ cap0 ∧ cap0 ≤ maxLen ∧ z0.length = cap0 ∧ (∀ i, i < z0.length → w.cell? (x.add i) = some (.int .i64 (z0.getD i 0))) ∧ ∀ n ∈ z0, (Lit.int .i64 n).wf = true) (y0 : len0 * 8 ≤ 140737488351232) (w1 : (Lit.int .u16 a1).wf = true) :
  Calls Try.prog 6 #[.slice a0 len0 cap0, .int .u16 a1] w fun e w' => e = .returned (.bool true) ∧ Below w.heap.size w w' := by
 obtain ⟨l0, rfl, hr0, hm0, hw0, hc0⟩ := ReadsInt.ofRowC w0
 obtain ⟨k, h⟩ := P l0 a1 hm0 y0 hw0 w1
 refine (gamplaw01_FoldBijection.calls k _ _ l0 a1 true w (Kd.C_of_reads (d := (0 : Int)) (h1 := fun _ => rfl) hr0) hc0 h rfl).mono ?_
 rintro e w' ⟨rfl, hd⟩
 exact ⟨rfl, hd⟩
end Go.Proofs.Ytiknnpfdpecfdaa.Ox

/- The declarations of Oxx6 that the claim Qd needs. -/
import Derived.Test.YtiknnpfdpecfdaaQdTkP
import Derived.Test.YtiknnpfdpecfdaaQdOxx0
import Derived.Test.YtiknnpfdpecfdaaQdZ6
namespace Go.Proofs.Ytiknnpfdpecfdaa.Ox
open Go.RowKit Go.Proofs.Ytiknnpfdpecfdaa.Own Go.Proofs.Ytiknnpfdpecfdaa.Gx Go.Proofs.YtiknnpfdpecfdaaW.PrintWords Go.Proofs.YtiknnpfdpecfdaaW.PrintLast Go.Proofs.YtiknnpfdpecfdaaW.PrintMore
attribute [local go_sem] max2_int min2_int max_two min_two max_three min_three max_four min_four
set_option linter.unusedVariables false
set_option linter.unusedSimpArgs false
mutual
def gamplaw01_FoldTurned.j0 : Nat → Int → Int → List Int → Int → Bool → Option (Bool)
  | 0, _, _, _, _, _ => none
  | k + 1, x1, x2, x7, x8, x38 => if x38 = true then (some false) else (if x8 = 0 then (none) else ((fold_At.f x7 (Int.tmod (wrap64 (x1)) x8)).bind fun bt188 => ((fold_Creases.f k x7 bt188.1).bind fun bt192 => ((gamplaw01_reversed.f k bt188.1).bind fun t194 => ((fold_Creases.f k x7 t194).bind fun bt197 => (if bt188.2 = 0 then (if bt192.2 = 0 then (if bt197.2 = 0 then ((gamplaw01_exchanged.f k bt192.1).bind fun t199 => (gamplaw01_FoldTurned.j1 k x2 x7 x8 bt188.1 bt192.1 (bt197.1.toList != t199.toList))) else (gamplaw01_FoldTurned.j1 k x2 x7 x8 bt188.1 bt192.1 true)) else (gamplaw01_FoldTurned.j1 k x2 x7 x8 bt188.1 bt192.1 true)) else (gamplaw01_FoldTurned.j1 k x2 x7 x8 bt188.1 bt192.1 true)))))))
def gamplaw01_FoldTurned.j1 : Nat → Int → List Int → Int → List Int → ByteArray → Bool → Option (Bool)
  | 0, _, _, _, _, _, _ => none
  | k + 1, x2, x7, x8, x10, x12, x76 => if x76 = true then (some false) else (gamplaw01_FoldTurned.l0 k x2 x7 x8 x10 x12 (([] : List Int)) 0)
def gamplaw01_FoldTurned.l0 : Nat → Int → List Int → Int → List Int → ByteArray → List Int → Int → Option (Bool)
  | 0, _, _, _, _, _, _, _ => none
  | k + 1, x2, x7, x8, x10, x12, x16, x17 => if x17 < (x7.length : Int) then (if 0 ≤ x17 then (if x16.length < 17592186044416 then (gamplaw01_FoldTurned.l0 k x2 x7 x8 x10 x12 (x16 ++ [wrap64 ((rd x7 x17) * (wrap64 ((Int.tmod (wrap64 (x2)) 100) + 1)))]) (wrap64 (x17 + 1))) else (none)) else (none)) else ((fold_Count.f x16).bind fun bt207 => ((fold_Creases.f k x16 x10).bind fun bt209 => (if bt207.1 = x8 then (if bt207.2 = 0 then (if bt209.1.toList = x12.toList then (some (bt209.2 == 0)) else (some false)) else (some false)) else (some false))))
end
def gamplaw01_FoldTurned.f (k : Nat) (l0 : List Int) (a1 : Int) (a2 : Int) : Option (Bool) := (gamplaw01_strip.f k l0 7 6).bind fun t182 => ((fold_Count.f t182).bind fun bt185 => (if bt185.2 = 0 then (if bt185.1 < 1 then (gamplaw01_FoldTurned.j0 k a1 a2 t182 bt185.1 true) else ((gamplaw01_lives.f k).bind fun t187 => (gamplaw01_FoldTurned.j0 k a1 a2 t182 bt185.1 (!t187)))) else (gamplaw01_FoldTurned.j0 k a1 a2 t182 bt185.1 true)))
set_option maxHeartbeats 8000000 in
set_option maxRecDepth 100000 in
theorem gamplaw01_FoldTurned.calls (k : Nat) (A0 : Option Addr) (c0 : Nat) (l0 : List Int) (a1 : Int) (a2 : Int) (r : Bool) (w : World) (hr0 : Kd.C (Kd.int .i64) w A0 l0.length l0) (hc0 : l0.length ≤ c0) (h : gamplaw01_FoldTurned.f k l0 a1 a2 = some r) (hrt : r = true) :
  Calls Try.prog 9 #[.slice A0 l0.length c0, .int .u16 a1, .int .u8 a2] w fun e w' => e = .returned (.bool r) ∧ Below w.heap.size w w' := by
 have HR0 := Aside0.mk hr0
 have HC0 := Aside0.mk hc0
 clear hr0 hc0
 have HB := Aside0.mk (Below.refl w.heap.size w)
 have H : ((gamplaw01_strip.f k l0 7 6).bind fun t182 => ((fold_Count.f t182).bind fun bt185 => (if bt185.2 = 0 then (if bt185.1 < 1 then (gamplaw01_FoldTurned.j0 k a1 a2 t182 bt185.1 true) else ((gamplaw01_lives.f k).bind fun t187 => (gamplaw01_FoldTurned.j0 k a1 a2 t182 bt185.1 (!t187)))) else (gamplaw01_FoldTurned.j0 k a1 a2 t182 bt185.1 true)))) = some r := h
 clear h
 replace H := Option.bind_eq_some_iff.mp H
 obtain ⟨t182, A40, H⟩ := H
 replace H : ((fold_Count.f t182).bind fun bt185 => (if bt185.2 = 0 then (if bt185.1 < 1 then (gamplaw01_FoldTurned.j0 k a1 a2 t182 bt185.1 true) else ((gamplaw01_lives.f k).bind fun t187 => (gamplaw01_FoldTurned.j0 k a1 a2 t182 bt185.1 (!t187)))) else (gamplaw01_FoldTurned.j0 k a1 a2 t182 bt185.1 true))) = some r := H
 have A4 := Aside0.mk A40
 clear A40
 replace H := Option.bind_eq_some_iff.mp H
 obtain ⟨⟨t185, t186⟩, A50, H⟩ := H
 replace H : (if t186 = 0 then (if t185 < 1 then (gamplaw01_FoldTurned.j0 k a1 a2 t182 t185 true) else ((gamplaw01_lives.f k).bind fun t187 => (gamplaw01_FoldTurned.j0 k a1 a2 t182 t185 (!t187)))) else (gamplaw01_FoldTurned.j0 k a1 a2 t182 t185 true)) = some r := H
 have A5 := Aside0.mk A50
 clear A50
 have HC6 := Aside0.mk H
 clear H
 go_enter Try.func9, Try.ntmps9
 go_upto_region 3 with (first | ((with_reducible refine gate_callee (f := 28) rfl ?_); refine gL 23 Try.func28 #[.slice A0 l0.length c0, .int .i64 7, .int .i64 6] ?_; (with_reducible refine (gamplaw01_strip.calls k _ _ l0 7 6 t182 _ ?side1 ?side2 A4.out).mono ?_); (case side1 => exact cl (HR0.out)); (case side2 => exact HC0.out); rintro e w7 ⟨v183, rfl, ho0, hb⟩; refine ⟨_, rfl, ?_⟩; have n0_ := Aside0.mk (Kd.R_lower ho0 (below_size (bl HB))); have n1_ := Aside0.mk (below_step (bl HB) hb); clear HB; have HO184 := n0_; have HB := n1_; clear n0_ n1_; (try clear hb); (try clear hb2); (try clear hk); (try clear hi); (try clear ho0); obtain ⟨Ao8, co8, eo8⟩ := Kd.R_slice HO184.out; subst eo8) | ((with_reducible refine gate_callee (f := 25) rfl ?_); refine gL 26 Try.func25 #[.slice Ao8 t182.length co8] ?_; (with_reducible refine (fold_Count.calls _ _ t182 t185 t186 _ ?side1 ?side2 A5.out).mono ?_); (case side1 => exact cl ((Kd.R_reads' HO184.out).2.2)); (case side2 => exact (Kd.R_reads' HO184.out).2.1); rintro e w9 ⟨rfl, hb⟩; refine ⟨_, rfl, ?_⟩; have n0_ := Aside0.mk (Kd.R_below (rl HO184) hb); have n1_ := Aside0.mk (below_step (bl HB) hb); clear HO184; clear HB; have HO184 := n0_; have HB := n1_; clear n0_ n1_; (try clear hb); (try clear hb2); (try clear hk); (try clear hi)))
 (try simp only [Act.put, List.setIfInBounds_toArray, List.set_cons_zero, List.set_cons_succ])
 go_cut [38] (fun v38 wc => ∃ (kq : Nat) (x38_5 : Bool), v38 = .bool x38_5 ∧ Aside0 (gamplaw01_FoldTurned.j0 kq a1 a2 t182 t185 x38_5 = some r) ∧ Aside0 (kq ≤ k) ∧ Aside0 (Kd.R (Kd.int .i64) 3 wc w.heap.size (fun _ => True) (.slice Ao8 t182.length co8) t182) ∧ Aside0 (Below w.heap.size w wc))
 case first =>
  have H := HC6.out
  clear HC6
  by_cases c10 : t186 = 0
  ·rw [if_pos c10] at H
   have c10b0 : (t186 == 0) = true := beq_iff_eq.mpr c10
   have c10b1 : (t186 != 0) = false := bne_eq_false_iff_eq.mpr c10
   clear c10
   (first | rw [c10b0] | (simp only [i64_w, i32_w]; rw [c10b0]) | skip)
   by_cases c11 : t185 < 1
   ·rw [if_pos c11] at H
    have c11b0 : decide (t185 < 1) = true := decide_eq_true c11
    clear c11
    have H' := Aside0.mk H
    clear H
    go_wp2
    go_meet
    case rel => exact ⟨_, (true), (by first | rfl | (simp; done) | (simp [*]; done)), H', ⟨by first | omega | exact Nat.le_refl _⟩, ⟨rl HO184⟩, ⟨bl HB⟩⟩
   ·rw [if_neg c11] at H
    have c11b0 : decide (t185 < 1) = false := decide_eq_false c11
    clear c11
    replace H := Option.bind_eq_some_iff.mp H
    obtain ⟨t187, A120, H⟩ := H
    replace H : (gamplaw01_FoldTurned.j0 k a1 a2 t182 t185 (!t187)) = some r := H
    have A12 := Aside0.mk A120
    clear A120
    have H' := Aside0.mk H
    clear H
    go_wp2_with (first | (go_at_call 20; (with_reducible refine (gamplaw01_lives.calls k  t187 _ A12.out).mono ?_); rintro e w13 ⟨rfl, hb⟩; have n0_ := Aside0.mk (Kd.R_below (rl HO184) hb); have n1_ := Aside0.mk (below_step (bl HB) hb); clear HO184; clear HB; have HO184 := n0_; have HB := n1_; clear n0_ n1_; (try clear hb); (try clear hb2); (try clear hk); (try clear hi)))
    go_meet
    case rel => exact ⟨_, (!t187), (by first | rfl | (simp; done) | (simp [*]; done)), H', ⟨by first | omega | exact Nat.le_refl _⟩, ⟨rl HO184⟩, ⟨bl HB⟩⟩
  ·rw [if_neg c10] at H
   have c10b0 : (t186 == 0) = false := beq_eq_false_iff_ne.mpr c10
   have c10b1 : (t186 != 0) = true := bne_iff_ne.mpr c10
   (first | rw [c10b0] | (simp only [i64_w, i32_w]; rw [c10b0]) | skip)
   have H' := Aside0.mk H
   clear H
   go_wp2
   go_meet
   case rel => exact ⟨_, (true), (by first | rfl | (simp; done) | (simp [*]; done)), H', ⟨by first | omega | exact Nat.le_refl _⟩, ⟨rl HO184⟩, ⟨bl HB⟩⟩
 case rest =>
  clear HC6
  try clear c1
  try clear c2
  try clear p2
  try clear c9
  try clear c10
  try clear c10b0
  try clear c10b1
  try clear c11
  try clear c11b0
  obtain ⟨kq, x38_5, rfl, HA, HJ5, HO_7, HB⟩ := hcut
  cases kq with
  | zero => exact absurd HA.out (by simp [gamplaw01_FoldTurned.j0])
  | succ kj5 =>
   have H := HA.out
   clear HA
   simp only [gamplaw01_FoldTurned.j0] at H
   by_cases c14 : x38_5 = true
   ·subst c14
    have H1 : (some false) = some r := by rw [if_pos rfl] at H; exact H
    clear H
    have H := H1
    clear H1
    rw [hrt] at H
    cases H
   ·replace c14 := Bool.eq_false_iff.mpr c14
    subst c14
    have H1 : (if t185 = 0 then (none) else ((fold_At.f t182 (Int.tmod (wrap64 (a1)) t185)).bind fun bt188 => ((fold_Creases.f kj5 t182 bt188.1).bind fun bt192 => ((gamplaw01_reversed.f kj5 bt188.1).bind fun t194 => ((fold_Creases.f kj5 t182 t194).bind fun bt197 => (if bt188.2 = 0 then (if bt192.2 = 0 then (if bt197.2 = 0 then ((gamplaw01_exchanged.f kj5 bt192.1).bind fun t199 => (gamplaw01_FoldTurned.j1 kj5 a2 t182 t185 bt188.1 bt192.1 (bt197.1.toList != t199.toList))) else (gamplaw01_FoldTurned.j1 kj5 a2 t182 t185 bt188.1 bt192.1 true)) else (gamplaw01_FoldTurned.j1 kj5 a2 t182 t185 bt188.1 bt192.1 true)) else (gamplaw01_FoldTurned.j1 kj5 a2 t182 t185 bt188.1 bt192.1 true))))))) = some r := by rw [if_neg (show ¬ (false = true) by decide)] at H; exact H
    clear H
    have H := H1
    clear H1
    by_cases c15 : t185 = 0
    ·rw [if_pos c15] at H
     exact absurd H (by simp)
    ·rw [if_neg c15] at H
     have c15b0 : (t185 == 0) = false := beq_eq_false_iff_ne.mpr c15
     have c15b1 : (t185 != 0) = true := bne_iff_ne.mpr c15
     replace H := Option.bind_eq_some_iff.mp H
     obtain ⟨⟨t188, t189⟩, A160, H⟩ := H
     replace H : ((fold_Creases.f kj5 t182 t188).bind fun bt192 => ((gamplaw01_reversed.f kj5 t188).bind fun t194 => ((fold_Creases.f kj5 t182 t194).bind fun bt197 => (if t189 = 0 then (if bt192.2 = 0 then (if bt197.2 = 0 then ((gamplaw01_exchanged.f kj5 bt192.1).bind fun t199 => (gamplaw01_FoldTurned.j1 kj5 a2 t182 t185 t188 bt192.1 (bt197.1.toList != t199.toList))) else (gamplaw01_FoldTurned.j1 kj5 a2 t182 t185 t188 bt192.1 true)) else (gamplaw01_FoldTurned.j1 kj5 a2 t182 t185 t188 bt192.1 true)) else (gamplaw01_FoldTurned.j1 kj5 a2 t182 t185 t188 bt192.1 true))))) = some r := H
     have A16 := Aside0.mk A160
     clear A160
     replace H := Option.bind_eq_some_iff.mp H
     obtain ⟨⟨t192, t193⟩, A170, H⟩ := H
     replace H : ((gamplaw01_reversed.f kj5 t188).bind fun t194 => ((fold_Creases.f kj5 t182 t194).bind fun bt197 => (if t189 = 0 then (if t193 = 0 then (if bt197.2 = 0 then ((gamplaw01_exchanged.f kj5 t192).bind fun t199 => (gamplaw01_FoldTurned.j1 kj5 a2 t182 t185 t188 t192 (bt197.1.toList != t199.toList))) else (gamplaw01_FoldTurned.j1 kj5 a2 t182 t185 t188 t192 true)) else (gamplaw01_FoldTurned.j1 kj5 a2 t182 t185 t188 t192 true)) else (gamplaw01_FoldTurned.j1 kj5 a2 t182 t185 t188 t192 true)))) = some r := H
     have A17 := Aside0.mk A170
     clear A170
     replace H := Option.bind_eq_some_iff.mp H
     obtain ⟨t194, A180, H⟩ := H
     replace H : ((fold_Creases.f kj5 t182 t194).bind fun bt197 => (if t189 = 0 then (if t193 = 0 then (if bt197.2 = 0 then ((gamplaw01_exchanged.f kj5 t192).bind fun t199 => (gamplaw01_FoldTurned.j1 kj5 a2 t182 t185 t188 t192 (bt197.1.toList != t199.toList))) else (gamplaw01_FoldTurned.j1 kj5 a2 t182 t185 t188 t192 true)) else (gamplaw01_FoldTurned.j1 kj5 a2 t182 t185 t188 t192 true)) else (gamplaw01_FoldTurned.j1 kj5 a2 t182 t185 t188 t192 true))) = some r := H
     have A18 := Aside0.mk A180
     clear A180
     replace H := Option.bind_eq_some_iff.mp H
     obtain ⟨⟨t197, t198⟩, A190, H⟩ := H
     replace H : (if t189 = 0 then (if t193 = 0 then (if t198 = 0 then ((gamplaw01_exchanged.f kj5 t192).bind fun t199 => (gamplaw01_FoldTurned.j1 kj5 a2 t182 t185 t188 t192 (t197.toList != t199.toList))) else (gamplaw01_FoldTurned.j1 kj5 a2 t182 t185 t188 t192 true)) else (gamplaw01_FoldTurned.j1 kj5 a2 t182 t185 t188 t192 true)) else (gamplaw01_FoldTurned.j1 kj5 a2 t182 t185 t188 t192 true)) = some r := H
     have A19 := Aside0.mk A190
     clear A190
     have HC20 := Aside0.mk H
     clear H
     go_upto_region 8 with (first | ((with_reducible refine gate_callee (f := 26) rfl ?_); refine gL 45 Try.func26 #[.slice Ao8 t182.length co8, .int .i64 (Int.tmod (wrap64 (a1)) t185)] ?_; (with_reducible refine (fold_At.calls _ _ t182 (Int.tmod (wrap64 (a1)) t185) t188 t189 _ ?side1 ?side2 A16.out).mono ?_); (case side1 => exact cl ((Kd.R_reads' HO_7.out).2.2)); (case side2 => exact (Kd.R_reads' HO_7.out).2.1); rintro e w21 ⟨v190, rfl, ho0, hb⟩; refine ⟨_, rfl, ?_⟩; have n0_ := Aside0.mk (Kd.R_elder' (rl HO_7) (Kd.R_base ho0) hb); have n1_ := Aside0.mk (Kd.R_lower (Kd.R_new' ho0 (Kd.R_lt (rl HO_7))) (below_size (bl HB))); have n2_ := Aside0.mk (below_step (bl HB) hb); clear HO_7; clear HB; have HO_7 := n0_; have HO191 := n1_; have HB := n2_; clear n0_ n1_ n2_; (try clear hb); (try clear hb2); (try clear hk); (try clear hi); (try clear ho0); obtain ⟨Ao22, co22, eo22⟩ := Kd.R_slice HO191.out; subst eo22) | ((with_reducible refine gate_callee (f := 38) rfl ?_); refine gL 51 Try.func38 #[.slice Ao8 t182.length co8, .slice Ao22 t188.length co22] ?_; (with_reducible refine (fold_Creases.calls kj5 _ _ t182 _ _ t188 t192 t193 _ ?side1 ?side2 ?side3 ?side4 A17.out).mono ?_); (case side1 => exact cl ((Kd.R_reads' HO_7.out).2.2)); (case side2 => exact (Kd.R_reads' HO_7.out).2.1); (case side3 => exact cl ((Kd.R_reads' HO191.out).2.2)); (case side4 => exact (Kd.R_reads' HO191.out).2.1); rintro e w23 ⟨rfl, hb⟩; refine ⟨_, rfl, ?_⟩; have n0_ := Aside0.mk (Kd.R_below (rl HO_7) hb); have n1_ := Aside0.mk (Kd.R_below (rl HO191) hb); have n2_ := Aside0.mk (below_step (bl HB) hb); clear HO_7; clear HO191; clear HB; have HO_7 := n0_; have HO191 := n1_; have HB := n2_; clear n0_ n1_ n2_; (try clear hb); (try clear hb2); (try clear hk); (try clear hi)) | ((with_reducible refine gate_callee (f := 39) rfl ?_); refine gL 57 Try.func39 #[.slice Ao22 t188.length co22] ?_; (with_reducible refine (gamplaw01_reversed.calls kj5 _ _ t188 t194 _ ?side1 ?side2 A18.out).mono ?_); (case side1 => exact cl ((Kd.R_reads' HO191.out).2.2)); (case side2 => exact (Kd.R_reads' HO191.out).2.1); rintro e w24 ⟨v195, rfl, ho0, hb⟩; refine ⟨_, rfl, ?_⟩; have n0_ := Aside0.mk (Kd.R_elder' (rl HO_7) (Kd.R_base ho0) hb); have n1_ := Aside0.mk (Kd.R_elder' (rl HO191) (Kd.R_base ho0) hb); have n2_ := Aside0.mk (Kd.R_lower (Kd.R_new' (Kd.R_new' ho0 (Kd.R_lt (rl HO_7))) (Kd.R_lt (rl HO191))) (below_size (bl HB))); have n3_ := Aside0.mk (below_step (bl HB) hb); clear HO_7; clear HO191; clear HB; have HO_7 := n0_; have HO191 := n1_; have HO196 := n2_; have HB := n3_; clear n0_ n1_ n2_ n3_; (try clear hb); (try clear hb2); (try clear hk); (try clear hi); (try clear ho0); obtain ⟨Ao25, co25, eo25⟩ := Kd.R_slice HO196.out; subst eo25) | ((with_reducible refine gate_callee (f := 38) rfl ?_); refine gL 58 Try.func38 #[.slice Ao8 t182.length co8, .slice Ao25 t194.length co25] ?_; (with_reducible refine (fold_Creases.calls kj5 _ _ t182 _ _ t194 t197 t198 _ ?side1 ?side2 ?side3 ?side4 A19.out).mono ?_); (case side1 => exact cl ((Kd.R_reads' HO_7.out).2.2)); (case side2 => exact (Kd.R_reads' HO_7.out).2.1); (case side3 => exact cl ((Kd.R_reads' HO196.out).2.2)); (case side4 => exact (Kd.R_reads' HO196.out).2.1); rintro e w26 ⟨rfl, hb⟩; refine ⟨_, rfl, ?_⟩; have n0_ := Aside0.mk (Kd.R_below (rl HO_7) hb); have n1_ := Aside0.mk (Kd.R_below (rl HO191) hb); have n2_ := Aside0.mk (Kd.R_below (rl HO196) hb); have n3_ := Aside0.mk (below_step (bl HB) hb); clear HO_7; clear HO191; clear HO196; clear HB; have HO_7 := n0_; have HO191 := n1_; have HO196 := n2_; have HB := n3_; clear n0_ n1_ n2_ n3_; (try clear hb); (try clear hb2); (try clear hk); (try clear hi)))
     (try simp only [Act.put, List.setIfInBounds_toArray, List.set_cons_zero, List.set_cons_succ])
     go_cut [76] (fun v76 wc => ∃ (kq : Nat) (x76_19 : Bool), v76 = .bool x76_19 ∧ Aside0 (gamplaw01_FoldTurned.j1 kq a2 t182 t185 t188 t192 x76_19 = some r) ∧ Aside0 (kq ≤ kj5) ∧ Aside0 (Kd.R (Kd.int .i64) 3 wc w.heap.size (fun k_ => some k_ ≠ ((.slice Ao22 t188.length co22) : Value).ownBlock) (.slice Ao8 t182.length co8) t182) ∧ Aside0 (Kd.R (Kd.int .i64) 3 wc w.heap.size (fun k_ => some k_ ≠ ((.slice Ao8 t182.length co8) : Value).ownBlock) (.slice Ao22 t188.length co22) t188) ∧ Aside0 (Below w.heap.size w wc))
     case first =>
      have H := HC20.out
      clear HC20
      by_cases c27 : t189 = 0
      ·rw [if_pos c27] at H
       have c27b0 : (t189 == 0) = true := beq_iff_eq.mpr c27
       have c27b1 : (t189 != 0) = false := bne_eq_false_iff_eq.mpr c27
       clear c27
       (first | rw [c27b0] | (simp only [i64_w, i32_w]; rw [c27b0]) | skip)
       by_cases c28 : t193 = 0
       ·rw [if_pos c28] at H
        have c28b0 : (t193 == 0) = true := beq_iff_eq.mpr c28
        have c28b1 : (t193 != 0) = false := bne_eq_false_iff_eq.mpr c28
        clear c28
        by_cases c29 : t198 = 0
        ·rw [if_pos c29] at H
         have c29b0 : (t198 == 0) = true := beq_iff_eq.mpr c29
         have c29b1 : (t198 != 0) = false := bne_eq_false_iff_eq.mpr c29
         clear c29
         replace H := Option.bind_eq_some_iff.mp H
         obtain ⟨t199, A300, H⟩ := H
         replace H : (gamplaw01_FoldTurned.j1 kj5 a2 t182 t185 t188 t192 (t197.toList != t199.toList)) = some r := H
         have A30 := Aside0.mk A300
         clear A300
         have H' := Aside0.mk H
         clear H
         go_wp2_with (first | (go_at_call 40; (with_reducible refine (gamplaw01_exchanged.calls kj5 t192 t199 _ A30.out).mono ?_); rintro e w' ⟨rfl, ⟨nd, rfl⟩⟩))
         go_meet
         case rel => exact ⟨_, ((t197.toList != t199.toList)), (by first | rfl | (simp; done) | (simp [*]; done)), H', ⟨by have := HJ5.out; first | omega | exact Nat.le_refl _⟩, ⟨by (with_reducible repeat (first | apply Kd.R_alloc | apply Kd.R_drewN | apply Kd.R_drew)); exact Kd.R_mono HO_7.out (fun _ hk => hk.1.2)⟩, ⟨by (with_reducible repeat (first | apply Kd.R_alloc | apply Kd.R_drewN | apply Kd.R_drew)); exact Kd.R_mono HO191.out (fun _ hk => hk.1.2)⟩, ⟨bl HB⟩⟩
        ·rw [if_neg c29] at H
         have c29b0 : (t198 == 0) = false := beq_eq_false_iff_ne.mpr c29
         have c29b1 : (t198 != 0) = true := bne_iff_ne.mpr c29
         have H' := Aside0.mk H
         clear H
         go_wp2
         go_meet
         case rel => exact ⟨_, (true), (by first | rfl | (simp; done) | (simp [*]; done)), H', ⟨by have := HJ5.out; first | omega | exact Nat.le_refl _⟩, ⟨by (with_reducible repeat (first | apply Kd.R_alloc | apply Kd.R_drewN | apply Kd.R_drew)); exact Kd.R_mono HO_7.out (fun _ hk => hk.1.2)⟩, ⟨by (with_reducible repeat (first | apply Kd.R_alloc | apply Kd.R_drewN | apply Kd.R_drew)); exact Kd.R_mono HO191.out (fun _ hk => hk.1.2)⟩, ⟨bl HB⟩⟩
       ·rw [if_neg c28] at H
        have c28b0 : (t193 == 0) = false := beq_eq_false_iff_ne.mpr c28
        have c28b1 : (t193 != 0) = true := bne_iff_ne.mpr c28
        have H' := Aside0.mk H
        clear H
        go_wp2
        go_meet
        case rel => exact ⟨_, (true), (by first | rfl | (simp; done) | (simp [*]; done)), H', ⟨by have := HJ5.out; first | omega | exact Nat.le_refl _⟩, ⟨by (with_reducible repeat (first | apply Kd.R_alloc | apply Kd.R_drewN | apply Kd.R_drew)); exact Kd.R_mono HO_7.out (fun _ hk => hk.1.2)⟩, ⟨by (with_reducible repeat (first | apply Kd.R_alloc | apply Kd.R_drewN | apply Kd.R_drew)); exact Kd.R_mono HO191.out (fun _ hk => hk.1.2)⟩, ⟨bl HB⟩⟩
      ·rw [if_neg c27] at H
       have c27b0 : (t189 == 0) = false := beq_eq_false_iff_ne.mpr c27
       have c27b1 : (t189 != 0) = true := bne_iff_ne.mpr c27
       (first | rw [c27b0] | (simp only [i64_w, i32_w]; rw [c27b0]) | skip)
       have H' := Aside0.mk H
       clear H
       go_wp2
       go_meet
       case rel => exact ⟨_, (true), (by first | rfl | (simp; done) | (simp [*]; done)), H', ⟨by have := HJ5.out; first | omega | exact Nat.le_refl _⟩, ⟨by (with_reducible repeat (first | apply Kd.R_alloc | apply Kd.R_drewN | apply Kd.R_drew)); exact Kd.R_mono HO_7.out (fun _ hk => hk.1.2)⟩, ⟨by (with_reducible repeat (first | apply Kd.R_alloc | apply Kd.R_drewN | apply Kd.R_drew)); exact Kd.R_mono HO191.out (fun _ hk => hk.1.2)⟩, ⟨bl HB⟩⟩
     case rest =>
      clear HC20
      try clear c1
      try clear c2
      try clear p2
      try clear c3
      try clear p6
      try clear c9
      try clear c10
      try clear c10b0
      try clear c10b1
      try clear c11
      try clear c11b0
      try clear c14
      try clear c15
      try clear c15b0
      try clear c15b1
      try clear c25
      try clear c26
      try clear c27
      try clear c27b0
      try clear c27b1
      try clear c28
      try clear c28b0
      try clear c28b1
      try clear c29
      try clear c29b0
      try clear c29b1
      try clear p2
      obtain ⟨kq, x76_19, rfl, HA, HJ19, HO_7, HO_10, HB⟩ := hcut
      cases kq with
      | zero => exact absurd HA.out (by simp [gamplaw01_FoldTurned.j1])
      | succ kj19 =>
       have H := HA.out
       clear HA
       simp only [gamplaw01_FoldTurned.j1] at H
       by_cases c31 : x76_19 = true
       ·subst c31
        have H1 : (some false) = some r := by rw [if_pos rfl] at H; exact H
        clear H
        have H := H1
        clear H1
        rw [hrt] at H
        cases H
       ·replace c31 := Bool.eq_false_iff.mpr c31
        subst c31
        have H1 : (gamplaw01_FoldTurned.l0 kj19 a2 t182 t185 t188 t192 (([] : List Int)) 0) = some r := by rw [if_neg (show ¬ (false = true) by decide)] at H; exact H
        clear H
        have H := H1
        clear H1
        obtain ⟨y200, hy200⟩ : ∃ y_ : List Int, y_ = (([] : List Int)) := ⟨_, rfl⟩
        replace H : (gamplaw01_FoldTurned.l0 kj19 a2 t182 t185 t188 t192 y200 0) = some r := by first | (rw [hy200]; with_reducible exact H) | (have H2_ := (Option.bind_some _ _).symm.trans H; rw [hy200]; with_reducible exact H2_) | (have H2_ := (Option.bind_some _ _).symm.trans H; with_reducible exact H2_) | with_reducible exact H | (rw [hy200]; exact H) | exact H
        have Ny200 := Aside0.mk hy200
        clear hy200
        have H' := Aside0.mk H
        clear H
        go_wp2_with (first | ((with_reducible refine gate_dst (N := 77) rfl ?_); refine Kd.R_lit (Kd.int .i64) _ 3 ?hg (N := 77) ?hd (xs := ([] : List Int)) (inner := []) (ok := fun _ => True) (okp := fun _ => True) ?hr ?hp (fun _ hk => hk) trivial (Below.refl _ _) (Nat.le_refl _) (by simp) ?_; (case hd => rfl); (case hg => rfl); (case hr => first | (go_simp; done) | (go_simp; rfl)); (case hp => exact (Reps.none _ _)); intro v201 w32 ho33 hb hg_ hnew_; clear hg_ hnew_; (first | rw [← Ny200.out] at ho33 | (simp only [Int.reduceToNat] at ho33; rw [← Ny200.out] at ho33)); have n0_ := Aside0.mk (Kd.R_elder' (rl HO_7) (Kd.R_base ho33) hb); have n1_ := Aside0.mk (Kd.R_elder' (rl HO_10) (Kd.R_base ho33) hb); have n2_ := Aside0.mk (Kd.R_lower (Kd.R_new' (Kd.R_new' ho33 (Kd.R_lt (rl HO_7))) (Kd.R_lt (rl HO_10))) (below_size (bl HB))); have n3_ := Aside0.mk (below_step (bl HB) hb); clear HO_7; clear HO_10; clear HB; have HO_7 := n0_; have HO_10 := n1_; have HO202 := n2_; have HB := n3_; clear n0_ n1_ n2_ n3_; clear hb ho33))
        go_loopg [16, 17] kj19 (fun kq v16 v17 w' => ∃ (x16_3 : List Int) (x17_3 : Int), v17 = .int .i64 x17_3 ∧ Aside0 (gamplaw01_FoldTurned.l0 kq a2 t182 t185 t188 t192 x16_3 x17_3 = some r) ∧ Aside0 (kq ≤ kj19) ∧ Aside0 (Kd.R (Kd.int .i64) 3 w' w.heap.size (fun k_ => some k_ ≠ ((.slice Ao22 t188.length co22) : Value).ownBlock ∧ some k_ ≠ (v16 : Value).ownBlock) (.slice Ao8 t182.length co8) t182) ∧ Aside0 (Kd.R (Kd.int .i64) 3 w' w.heap.size (fun k_ => some k_ ≠ ((.slice Ao8 t182.length co8) : Value).ownBlock ∧ some k_ ≠ (v16 : Value).ownBlock) (.slice Ao22 t188.length co22) t188) ∧ Aside0 (Kd.R (Kd.int .i64) 3 w' w.heap.size (fun k_ => some k_ ≠ ((.slice Ao8 t182.length co8) : Value).ownBlock ∧ some k_ ≠ ((.slice Ao22 t188.length co22) : Value).ownBlock) v16 x16_3) ∧ Aside0 (Below w.heap.size w w'))
        case atStart => exact ⟨(y200), (0), (by first | rfl | (simp; done) | (simp [*]; done)), H', ⟨Nat.le_refl _⟩, ⟨rl HO_7⟩, ⟨rl HO_10⟩, ⟨by (with_reducible repeat (first | apply Kd.R_alloc | apply Kd.R_drewN | apply Kd.R_drew)); exact Kd.R_mono HO202.out (fun _ hk => ⟨hk.1.2, hk.2⟩)⟩, ⟨bl HB⟩⟩
        case round =>
         clear H'
         try clear c1
         try clear c2
         try clear p2
         try clear c3
         try clear p6
         try clear c9
         try clear c10
         try clear c10b0
         try clear c10b1
         try clear c11
         try clear c11b0
         try clear c14
         try clear c15
         try clear c15b0
         try clear c15b1
         try clear c25
         try clear c26
         try clear c27
         try clear c27b0
         try clear c27b1
         try clear c28
         try clear c28b0
         try clear c28b1
         try clear c29
         try clear c29b0
         try clear c29b1
         try clear c31
         try clear p2
         try clear p6
         obtain ⟨x16_3, x17_3, rfl, HA, HK3, HO_7, HO_10, HO_16, HB⟩ := hrel
         cases gk with
         | zero => exact absurd HA.out (by simp [gamplaw01_FoldTurned.l0])
         | succ k3 =>
          have H := HA.out
          clear HA
          simp only [gamplaw01_FoldTurned.l0] at H
          by_cases c34 : x17_3 < (t182.length : Int)
          ·rw [if_pos c34] at H
           have c34b0 : decide (x17_3 < (t182.length : Int)) = true := decide_eq_true c34
           clear c34
           by_cases c35 : 0 ≤ x17_3
           ·rw [if_pos c35] at H
            have c35b0 : decide (0 ≤ x17_3) = true := decide_eq_true c35
            clear c35
            by_cases c36 : x16_3.length < 17592186044416
            ·rw [if_pos c36] at H
             have LMc36 := Aside0.mk c36
             clear c36
             obtain ⟨y204, hy204⟩ : ∃ y_ : List Int, y_ = (x16_3 ++ [wrap64 ((rd t182 x17_3) * (wrap64 ((Int.tmod (wrap64 (a2)) 100) + 1)))]) := ⟨_, rfl⟩
             replace H : (gamplaw01_FoldTurned.l0 k3 a2 t182 t185 t188 t192 y204 (wrap64 (x17_3 + 1))) = some r := by first | (rw [hy204]; with_reducible exact H) | (have H2_ := (Option.bind_some _ _).symm.trans H; rw [hy204]; with_reducible exact H2_) | (have H2_ := (Option.bind_some _ _).symm.trans H; with_reducible exact H2_) | with_reducible exact H | (rw [hy204]; exact H) | exact H
             have Ny204 := Aside0.mk hy204
             clear hy204
             have H' := Aside0.mk H
             clear H
             have p203 : 0 ≤ (x17_3 : Int) := ofd
             have q203 : x17_3 < (t182.length : Int) := ofd
             obtain ⟨ad203, e203, hx203_0⟩ := Kd.at_int (Kd.R_reads' HO_7.out).2.2 x17_3 p203 q203
             cases e203
             replace p203 := eq_true p203
             replace q203 := eq_true q203
             go_wp2_with (first | ((with_reducible refine gate_builtin (b := .append) (xs := #[.tmp 84, .tmp 94]) rfl ?_); at_builtin; refine Kd.R_append (Kd.int .i64) (w0 := w) w.heap.size rfl (.tmp 84) (.tmp 94) 22 3 (.int .i64 0) 8 rfl Try.underlying22 info3 rfl (by decide) (by omega) u16 x16_3 (wrap64 ((rd t182 x17_3) * (wrap64 ((Int.tmod (wrap64 (a2)) 100) + 1)))) [.int .i64 (wrap64 ((rd t182 x17_3) * (wrap64 ((Int.tmod (wrap64 (a2)) 100) + 1))))] (fun k_ => some k_ ≠ (.slice (some ad203) t182.length co8 : Value).ownBlock ∧ some k_ ≠ (.slice Ao22 t188.length co22 : Value).ownBlock) (fun _ => False) rfl rfl ?aP (fun _ hk => hk.elim) ?aF ?aO ?aB ?aS ?aL ?_; (case aP => exact rfl); (case aB => exact (bl HB)); (case aF => exact (fun k_ hk => ⟨Kd.fresh' (Kd.R_lt (rl HO_7)) k_ hk, Kd.fresh' (Kd.R_lt (rl HO_10)) k_ hk⟩)); (case aO => exact (rl HO_16)); (case aS => exact (below_size (bl HB))); (case aL => have := LMc36.out; omega); intro v205 w37 ho hb hg hat; rw [← Ny204.out] at ho; have n0_ := Aside0.mk (Kd.R_after (ok := (fun k_ => some k_ ≠ (.slice Ao22 t188.length co22 : Value).ownBlock)) (rl HO_7) hg hat); have n1_ := Aside0.mk (Kd.R_after (ok := (fun k_ => some k_ ≠ (.slice (some ad203) t182.length co8 : Value).ownBlock)) (rl HO_10) hg hat); have n2_ := Aside0.mk (hb); have n3_ := Aside0.mk (ho); clear HO_7; clear HO_10; clear HB; clear HO_16; have HO_7 := n0_; have HO_10 := n1_; have HB := n2_; have HO206 := n3_; clear n0_ n1_ n2_ n3_; clear ho hb hg hat))
             go_roundg k3
             case measure => have := HJ5.out; have := HJ19.out; have := HK3.out; omega
             case rel => exact ⟨(y204), (wrap64 (x17_3 + 1)), (by first | rfl | (simp; done) | (simp [*]; done)), H', ⟨by have := HJ5.out; have := HJ19.out; have := HK3.out; omega⟩, ⟨rl HO_7⟩, ⟨rl HO_10⟩, ⟨rl HO206⟩, ⟨bl HB⟩⟩
            ·rw [if_neg c36] at H
             exact absurd H (by simp)
           ·rw [if_neg c35] at H
            exact absurd H (by simp)
          ·rw [if_neg c34] at H
           have c34b0 : decide (x17_3 < (t182.length : Int)) = false := decide_eq_false c34
           clear c34
           replace H := Option.bind_eq_some_iff.mp H
           obtain ⟨⟨t207, t208⟩, A380, H⟩ := H
           replace H : ((fold_Creases.f k3 x16_3 t188).bind fun bt209 => (if t207 = t185 then (if t208 = 0 then (if bt209.1.toList = t192.toList then (some (bt209.2 == 0)) else (some false)) else (some false)) else (some false))) = some r := H
           have A38 := Aside0.mk A380
           clear A380
           replace H := Option.bind_eq_some_iff.mp H
           obtain ⟨⟨t209, t210⟩, A390, H⟩ := H
           replace H : (if t207 = t185 then (if t208 = 0 then (if t209.toList = t192.toList then (some (t210 == 0)) else (some false)) else (some false)) else (some false)) = some r := H
           have A39 := Aside0.mk A390
           clear A390
           by_cases c40 : t207 = t185
           ·rw [if_pos c40] at H
            have c40b0 : (t207 == t185) = true := beq_iff_eq.mpr c40
            have c40b1 : (t207 != t185) = false := bne_eq_false_iff_eq.mpr c40
            clear c40
            by_cases c41 : t208 = 0
            ·rw [if_pos c41] at H
             have c41b0 : (t208 == 0) = true := beq_iff_eq.mpr c41
             have c41b1 : (t208 != 0) = false := bne_eq_false_iff_eq.mpr c41
             clear c41
             by_cases c42 : t209.toList = t192.toList
             ·rw [if_pos c42] at H
              have c42b0 : (t209.toList == t192.toList) = true := beq_iff_eq.mpr c42
              have c42b1 : (t209.toList != t192.toList) = false := bne_eq_false_iff_eq.mpr c42
              clear c42
              obtain rfl := Option.some.inj H
              obtain ⟨Ao43, co43, eo43⟩ := Kd.R_slice HO_16.out
              subst eo43
              go_wp2_with (first | ((with_reducible refine gate_callee (f := 25) rfl ?_); refine gL 98 Try.func25 #[.slice Ao43 x16_3.length co43] ?_; (with_reducible refine (fold_Count.calls _ _ x16_3 t207 t208 _ ?side1 ?side2 A38.out).mono ?_); (case side1 => exact cl ((Kd.R_reads' HO_16.out).2.2)); (case side2 => exact (Kd.R_reads' HO_16.out).2.1); rintro e w44 ⟨rfl, hb⟩; refine ⟨_, rfl, ?_⟩; have n0_ := Aside0.mk (Kd.R_below (rl HO_7) hb); have n1_ := Aside0.mk (Kd.R_below (rl HO_10) hb); have n2_ := Aside0.mk (Kd.R_below (rl HO_16) hb); have n3_ := Aside0.mk (below_step (bl HB) hb); clear HO_7; clear HO_10; clear HO_16; clear HB; have HO_7 := n0_; have HO_10 := n1_; have HO_16 := n2_; have HB := n3_; clear n0_ n1_ n2_ n3_; (try clear hb); (try clear hb2); (try clear hk); (try clear hi)) | ((with_reducible refine gate_callee (f := 38) rfl ?_); refine gL 104 Try.func38 #[.slice Ao43 x16_3.length co43, .slice Ao22 t188.length co22] ?_; (with_reducible refine (fold_Creases.calls k3 _ _ x16_3 _ _ t188 t209 t210 _ ?side1 ?side2 ?side3 ?side4 A39.out).mono ?_); (case side1 => exact cl ((Kd.R_reads' HO_16.out).2.2)); (case side2 => exact (Kd.R_reads' HO_16.out).2.1); (case side3 => exact cl ((Kd.R_reads' HO_10.out).2.2)); (case side4 => exact (Kd.R_reads' HO_10.out).2.1); rintro e w45 ⟨rfl, hb⟩; refine ⟨_, rfl, ?_⟩; have n0_ := Aside0.mk (Kd.R_below (rl HO_7) hb); have n1_ := Aside0.mk (Kd.R_below (rl HO_10) hb); have n2_ := Aside0.mk (Kd.R_below (rl HO_16) hb); have n3_ := Aside0.mk (below_step (bl HB) hb); clear HO_7; clear HO_10; clear HO_16; clear HB; have HO_7 := n0_; have HO_10 := n1_; have HO_16 := n2_; have HB := n3_; clear n0_ n1_ n2_ n3_; (try clear hb); (try clear hb2); (try clear hk); (try clear hi)))
              go_ret
              exact ⟨by first | rfl | (simp [errW_none, errW_some] <;> rfl) | (simp [*, errW_none, errW_some] <;> rfl), by repeat (first | (with_reducible first | exact HB.out | apply below_alloc | apply pw_below_drewN | apply below_drew1) | exact HB.out)⟩
             ·rw [if_neg c42] at H
              have c42b0 : (t209.toList == t192.toList) = false := beq_eq_false_iff_ne.mpr c42
              have c42b1 : (t209.toList != t192.toList) = true := bne_iff_ne.mpr c42
              rw [hrt] at H
              cases H
            ·rw [if_neg c41] at H
             have c41b0 : (t208 == 0) = false := beq_eq_false_iff_ne.mpr c41
             have c41b1 : (t208 != 0) = true := bne_iff_ne.mpr c41
             rw [hrt] at H
             cases H
           ·rw [if_neg c40] at H
            have c40b0 : (t207 == t185) = false := beq_eq_false_iff_ne.mpr c40
            have c40b1 : (t207 != t185) = true := bne_iff_ne.mpr c40
            rw [hrt] at H
            cases H
/-- THE ONE PURE STATEMENT of gamplaw01_FoldTurned: yours. -/
def gamplaw01_FoldTurned.Pure : Prop := ∀ (l0 : List Int) (a1 : Int) (a2 : Int), l0.length ≤ maxLen → l0.length * 8 ≤ 140737488351232 → (∀ x ∈ l0, (Lit.int .i64 x).wf = true) → (Lit.int .u16 a1).wf = true → (Lit.int .u8 a2).wf = true → ∃ k, gamplaw01_FoldTurned.f k l0 a1 a2 = some true
theorem gamplaw01_FoldTurned.walk (P : gamplaw01_FoldTurned.Pure) (a0 : Option Addr) (len0 cap0 : Nat) (z0 : List Int) (a1 : Int) (a2 : Int) (w : World) (w0 : (a0 = none ∧ len0 = 0 ∧ cap0 = 0 ∧ z0 = []) ∨ ∃ x, a0 = some x ∧ len0 ≤ cap0 ∧ cap0 ≤ maxLen ∧ z0.length = cap0 ∧ (∀ i, i < z0.length → w.cell? (x.add i) = some (.int .i64 (z0.getD i 0))) ∧ ∀ n ∈ z0, (Lit.int .i64 n).wf = true) (y0 : len0 * 8 ≤ 140737488351232) (w1 : (Lit.int .u16 a1).wf = true) (w2 : (Lit.int .u8 a2).wf = true) :
  Calls Try.prog 9 #[.slice a0 len0 cap0, .int .u16 a1, .int .u8 a2] w fun e w' => e = .returned (.bool true) ∧ Below w.heap.size w w' := by
 obtain ⟨l0, rfl, hr0, hm0, hw0, hc0⟩ := ReadsInt.ofRowC w0
 obtain ⟨k, h⟩ := P l0 a1 a2 hm0 y0 hw0 w1 w2
 refine (gamplaw01_FoldTurned.calls k _ _ l0 a1 a2 true w (Kd.C_of_reads (d := (0 : Int)) (h1 := fun _ => rfl) hr0) hc0 h rfl).mono ?_
 rintro e w' ⟨rfl, hd⟩
 exact ⟨rfl, hd⟩
end Go.Proofs.Ytiknnpfdpecfdaa.Ox

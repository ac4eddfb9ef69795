/- The declarations of Gxx6 that the claim Qd needs. -/
import Derived.Test.YtiknnpfdpecfdaaQdTkP
import Derived.Test.YtiknnpfdpecfdaaQdGxx0
import Derived.Test.YtiknnpfdpecfdaaQdGxx4
import Derived.Test.YtiknnpfdpecfdaaQdGxx5
namespace Go.Proofs.Ytiknnpfdpecfdaa.Gx
open Go.RowKit Go.Proofs.Ytiknnpfdpecfdaa.Own Go.Proofs.Ytiknnpfdpecfdaa.Fey Go.Proofs.Ytiknnpfdpecfdaa.Fe Go.Proofs.YtiknnpfdpecfdaaW.PrintWords Go.Proofs.YtiknnpfdpecfdaaW.PrintLast Go.Proofs.YtiknnpfdpecfdaaW.PrintMore
attribute [local go_sem] max2_int min2_int max_two min_two max_three min_three max_four min_four
set_option linter.unusedVariables false
set_option linter.unusedSimpArgs false
mutual
def gampref01_Folds.j0 : Nat → List Int → List Int → Bool → Bool → Option (Bool)
  | 0, _, _, _, _ => none
  | k + 1, x0, x1, x2, x20 => if x20 = true then (some false) else ((gampref01_places.f k x0).bind fun t248 => ((gampref01_layers.f k x1).bind fun t251 => ((gampref01_creases.f k x0 x2).bind fun t254 => (gampref01_Folds.l0 k x0 t248 t251 t254 0))))
def gampref01_Folds.l0 : Nat → List Int → List Int → List Int → List (S88) → Int → Option (Bool)
  | 0, _, _, _, _, _ => none
  | k + 1, x0, x7, x8, x9, x10 => if x10 < (x9.length : Int) then (if 0 ≤ x10 then (if 0 ≤ ((rd_T88 x9 x10).f1) then (if ((rd_T88 x9 x10).f1) < (x8.length : Int) then (if 0 ≤ ((rd_T88 x9 x10).f2) then (if ((rd_T88 x9 x10).f2) < (x8.length : Int) then (gampref01_Folds.l1 k x0 x7 x8 x9 x10 (rd x8 ((rd_T88 x9 x10).f1)) (rd x8 ((rd_T88 x9 x10).f2)) 0) else (none)) else (none)) else (none)) else (none)) else (none)) else (some true)
def gampref01_Folds.l1 : Nat → List Int → List Int → List Int → List (S88) → Int → Int → Int → Int → Option (Bool)
  | 0, _, _, _, _, _, _, _, _ => none
  | k + 1, x0, x7, x8, x9, x10, x11, x12, x13 => if x13 < (x0.length : Int) then (if 0 ≤ x10 then (if x10 < (x9.length : Int) then (if 0 ≤ x13 then (if x13 < (x7.length : Int) then (if 0 ≤ (wrap64 (x13 + 1)) then (if (wrap64 (x13 + 1)) < (x7.length : Int) then ((gampref01_between.f ((rd_T88 x9 x10).f0) (rd x7 x13) (rd x7 (wrap64 (x13 + 1)))).bind fun t264 => (if t264 = true then (if x13 < (x8.length : Int) then ((gampref01_between.f (rd x8 x13) x11 x12).bind fun t266 => (if t266 = true then (some false) else (gampref01_Folds.l1 k x0 x7 x8 x9 x10 x11 x12 (wrap64 (x13 + 1))))) else (none)) else (gampref01_Folds.l1 k x0 x7 x8 x9 x10 x11 x12 (wrap64 (x13 + 1))))) else (none)) else (none)) else (none)) else (none)) else (none)) else (none)) else (gampref01_Folds.l2 k x0 x7 x8 x9 x10 x11 x12 0)
def gampref01_Folds.l2 : Nat → List Int → List Int → List Int → List (S88) → Int → Int → Int → Int → Option (Bool)
  | 0, _, _, _, _, _, _, _, _ => none
  | k + 1, x0, x7, x8, x9, x10, x11, x12, x14 => if x14 < (x9.length : Int) then (if x14 = x10 then (gampref01_Folds.l2 k x0 x7 x8 x9 x10 x11 x12 (wrap64 (x14 + 1))) else (if 0 ≤ x14 then (if 0 ≤ x10 then (if x10 < (x9.length : Int) then (if ((rd_T88 x9 x14).f0) = ((rd_T88 x9 x10).f0) then (if (((rd_T88 x9 x14).f3) == ((rd_T88 x9 x10).f3)) = true then (if 0 ≤ ((rd_T88 x9 x14).f1) then (if ((rd_T88 x9 x14).f1) < (x8.length : Int) then ((gampref01_between.f (rd x8 ((rd_T88 x9 x14).f1)) x11 x12).bind fun t273 => (if 0 ≤ ((rd_T88 x9 x14).f2) then (if ((rd_T88 x9 x14).f2) < (x8.length : Int) then ((gampref01_between.f (rd x8 ((rd_T88 x9 x14).f2)) x11 x12).bind fun t276 => (if (t273 != t276) = true then (some false) else (gampref01_Folds.l2 k x0 x7 x8 x9 x10 x11 x12 (wrap64 (x14 + 1))))) else (none)) else (none))) else (none)) else (none)) else (gampref01_Folds.l2 k x0 x7 x8 x9 x10 x11 x12 (wrap64 (x14 + 1)))) else (gampref01_Folds.l2 k x0 x7 x8 x9 x10 x11 x12 (wrap64 (x14 + 1)))) else (none)) else (none)) else (none))) else (gampref01_Folds.l0 k x0 x7 x8 x9 (wrap64 (x10 + 1)))
end
def gampref01_Folds.f (k : Nat) (l0 : List Int) (l1 : List Int) (a2 : Bool) : Option (Bool) := if a2 = true then ((gampref01_Closes.f k l0).bind fun t247 => (gampref01_Folds.j0 k l0 l1 a2 (!t247))) else (gampref01_Folds.j0 k l0 l1 a2 false)
def gampref01_Folds.T7 : Bool × List (List Nat × List Nat) := (true, [([], []), ([], []), ([], []), ([1, 2], [1, 2]), ([3], [3]), ([4], [4]), ([0, 5], [0, 5]), ([6], [6]), ([], []), ([], []), ([], []), ([9, 10], [9, 10]), ([11], [11]), ([12], [12]), ([8, 13], [8, 13]), ([14], [14]), ([7, 0, 1, 2, 3, 4, 5, 6, 7], [7]), ([15, 16, 0, 1, 2, 3, 4, 5, 6, 7, 8, 9, 10, 11, 12, 13, 14, 15, 16], [15])])
def gampref01_Folds.B7 : List Nat := [0, 0, 0, 6, 14, 30, 63, 127, 0, 0, 0, 1536, 3584, 7680, 16128, 32512, 255, 131071]
theorem gampref01_Folds.tab7 : rtab .any (opsOf Try.f31 7) = gampref01_Folds.T7 := by kernel_rfl
theorem gampref01_Folds.bits7 : waitsOk gampref01_Folds.T7.2 gampref01_Folds.B7 = true := by kernel_rfl
def gampref01_Folds.T11 : Bool × List (List Nat × List Nat) := (true, [([], []), ([], []), ([0, 1], [0, 1]), ([2], [2]), ([3], [3]), ([], []), ([], []), ([5, 6], [5, 6]), ([7], [7]), ([], []), ([], []), ([10], [10]), ([9, 11], [9, 11]), ([12], [12]), ([4, 8, 13], [4, 8, 13]), ([14, 14], [14]), ([15], [15]), ([15], [15]), ([16, 17, 15], [15, 16, 17]), ([18, 15], [15, 18]), ([15], [15]), ([15], [15]), ([19, 20, 21, 15, 15], [15, 19, 20, 21]), ([15, 22], [15, 22])])
def gampref01_Folds.B11 : List Nat := [0, 0, 3, 7, 15, 0, 0, 96, 224, 0, 0, 1024, 3584, 7680, 16383, 32767, 65535, 65535, 262143, 524287, 65535, 65535, 4194303, 8388607]
theorem gampref01_Folds.tab11 : rtab .any (opsOf Try.f31 11) = gampref01_Folds.T11 := by kernel_rfl
theorem gampref01_Folds.bits11 : waitsOk gampref01_Folds.T11.2 gampref01_Folds.B11 = true := by kernel_rfl
def gampref01_Folds.T16 : Bool × List (List Nat × List Nat) := (true, [([], []), ([], []), ([0, 1], [0, 1]), ([2], [2]), ([3], [3]), ([3], [3]), ([4, 5, 3], [3, 4, 5]), ([6, 3], [3, 6]), ([7, 3], [3, 7]), ([3], [3]), ([3], [3]), ([9, 10, 3], [3, 9, 10]), ([11, 3], [3, 11]), ([12, 3], [3, 12]), ([8, 13, 3], [3, 8, 13]), ([3, 14], [3, 14]), ([15, 3], [15]), ([16], [16]), ([16], [16]), ([17, 18, 16], [16, 17, 18]), ([19, 16], [16, 19]), ([20, 16], [16, 20]), ([16], [16]), ([16], [16]), ([22, 23, 16], [16, 22, 23]), ([24, 16], [16, 24]), ([25, 16], [16, 25]), ([21, 26, 16], [16, 21, 26]), ([16, 27], [16, 27]), ([28, 16], [28]), ([29], [29]), ([29], [29]), ([29], [29]), ([31, 32, 29], [29, 31, 32]), ([33, 29], [29, 33]), ([34, 29], [29, 34]), ([30, 35, 29], [29, 30, 35]), ([36, 29], [29, 36]), ([29], [29]), ([29], [29]), ([37, 38, 39, 29, 29], [29, 37, 38, 39]), ([29], [29]), ([29], [29]), ([29], [29]), ([42, 43, 29], [29, 42, 43]), ([44, 29], [29, 44]), ([45, 29], [29, 45]), ([41, 46, 29], [29, 41, 46]), ([47, 29], [29, 47]), ([29], [29]), ([29], [29]), ([48, 49, 50, 40, 29], [29, 48, 49, 50]), ([40, 51, 29], [29, 40, 51]), ([29, 52], [29, 52])])
def gampref01_Folds.B16 : List Nat := [0, 0, 3, 7, 15, 15, 63, 127, 255, 15, 15, 1551, 3599, 7695, 16383, 32767, 65535, 131071, 131071, 524287, 1048575, 2097151, 131071, 131071, 12713983, 29491199, 63045631, 134217727, 268435455, 536870911, 1073741823, 1073741823, 1073741823, 7516192767, 16106127359, 33285996543, 68719476735, 137438953471, 1073741823, 1073741823, 1099511627775, 1073741823, 1073741823, 1073741823, 13195213275135, 30787399319551, 65971771408383, 138539538841599, 279277027196927, 1073741823, 1073741823, 2251799813685247, 4503599627370495, 9007199254740991]
theorem gampref01_Folds.tab16 : rtab .any (opsOf Try.f31 16) = gampref01_Folds.T16 := by kernel_rfl
theorem gampref01_Folds.bits16 : waitsOk gampref01_Folds.T16.2 gampref01_Folds.B16 = true := by kernel_rfl
set_option maxHeartbeats 8000000 in
set_option maxRecDepth 100000 in
theorem gampref01_Folds.calls (k : Nat) (A0 : Option Addr) (c0 : Nat) (l0 : List Int) (A1 : Option Addr) (c1 : Nat) (l1 : List Int) (a2 : Bool) (r : Bool) (w : World) (hr0 : Kd.C (Kd.int .i64) w A0 l0.length l0) (hc0 : l0.length ≤ c0) (hr1 : Kd.C (Kd.int .i64) w A1 l1.length l1) (hc1 : l1.length ≤ c1) (h : gampref01_Folds.f k l0 l1 a2 = some r) :
  Calls Try.prog 31 #[.slice A0 l0.length c0, .slice A1 l1.length c1, .bool a2] w fun e w' => e = .returned (.bool r) ∧ Below w.heap.size w w' := by
 have HR0 := Aside0.mk hr0
 have HC0 := Aside0.mk hc0
 clear hr0 hc0
 have HR1 := Aside0.mk hr1
 have HC1 := Aside0.mk hc1
 clear hr1 hc1
 have HB := Aside0.mk (Below.refl w.heap.size w)
 have H : (if a2 = true then ((gampref01_Closes.f k l0).bind fun t247 => (gampref01_Folds.j0 k l0 l1 a2 (!t247))) else (gampref01_Folds.j0 k l0 l1 a2 false)) = some r := h
 clear h
 have HC4 := Aside0.mk H
 clear H
 go_enter Try.func31, Try.ntmps31
 go_upto_region 1 with (fail)
 go_cut [20] (fun v20 wc => ∃ (kq : Nat) (x20_3 : Bool), v20 = .bool x20_3 ∧ Aside0 (gampref01_Folds.j0 kq l0 l1 a2 x20_3 = some r) ∧ Aside0 (kq ≤ k) ∧ Aside0 (Below w.heap.size w wc))
 case first =>
  have H := HC4.out
  clear HC4
  by_cases c5 : a2 = true
  ·subst c5
   have H1 : ((gampref01_Closes.f k l0).bind fun t247 => (gampref01_Folds.j0 k l0 l1 true (!t247))) = some r := by rw [if_pos rfl] at H; exact H
   clear H
   have H := H1
   clear H1
   replace H := Option.bind_eq_some_iff.mp H
   obtain ⟨t247, A60, H⟩ := H
   replace H : (gampref01_Folds.j0 k l0 l1 true (!t247)) = some r := H
   have A6 := Aside0.mk A60
   clear A60
   have H' := Aside0.mk H
   clear H
   go_wp2_with (first | (go_at_call 58; (with_reducible refine (gampref01_Closes.calls k _ _ l0 t247 _ ?side1 ?side2 A6.out).mono ?_); (case side1 => exact cl (Kd.C_below HR0.out HB.out)); (case side2 => exact HC0.out); rintro e w7 ⟨rfl, hb⟩; have n0_ := Aside0.mk (below_step (bl HB) hb); clear HB; have HB := n0_; clear n0_; (try clear hb); (try clear hb2); (try clear hk); (try clear hi)))
   go_meet
   case rel => exact ⟨_, (!t247), (by first | rfl | (simp; done) | (simp [*]; done)), H', ⟨by first | omega | exact Nat.le_refl _⟩, ⟨bl HB⟩⟩
  ·replace c5 := Bool.eq_false_iff.mpr c5
   subst c5
   have H1 : (gampref01_Folds.j0 k l0 l1 false false) = some r := by rw [if_neg (show ¬ (false = true) by decide)] at H; exact H
   clear H
   have H := H1
   clear H1
   have H' := Aside0.mk H
   clear H
   go_wp2
   go_meet
   case rel => exact ⟨_, (false), (by first | rfl | (simp; done) | (simp [*]; done)), H', ⟨by first | omega | exact Nat.le_refl _⟩, ⟨bl HB⟩⟩
 case rest =>
  clear HC4
  try clear c1
  try clear p2
  try clear c3
  try clear c5
  obtain ⟨kq, x20_3, rfl, HA, HJ3, HB⟩ := hcut
  cases kq with
  | zero => exact absurd HA.out (by simp [gampref01_Folds.j0])
  | succ kj3 =>
   have H := HA.out
   clear HA
   simp only [gampref01_Folds.j0] at H
   by_cases c8 : x20_3 = true
   ·subst c8
    have H1 : (some false) = some r := by rw [if_pos rfl] at H; exact H
    clear H
    have H := H1
    clear H1
    obtain rfl := Option.some.inj H
    go_wp2
    go_ret
    exact ⟨by first | rfl | (simp [errW_none, errW_some] <;> rfl) | (simp [*, errW_none, errW_some] <;> rfl), by repeat (first | (with_reducible first | exact HB.out | apply below_alloc | apply pw_below_drewN | apply below_drew1) | exact HB.out)⟩
   ·replace c8 := Bool.eq_false_iff.mpr c8
    subst c8
    have H1 : ((gampref01_places.f kj3 l0).bind fun t248 => ((gampref01_layers.f kj3 l1).bind fun t251 => ((gampref01_creases.f kj3 l0 a2).bind fun t254 => (gampref01_Folds.l0 kj3 l0 t248 t251 t254 0)))) = some r := by rw [if_neg (show ¬ (false = true) by decide)] at H; exact H
    clear H
    have H := H1
    clear H1
    replace H := Option.bind_eq_some_iff.mp H
    obtain ⟨t248, A90, H⟩ := H
    replace H : ((gampref01_layers.f kj3 l1).bind fun t251 => ((gampref01_creases.f kj3 l0 a2).bind fun t254 => (gampref01_Folds.l0 kj3 l0 t248 t251 t254 0))) = some r := H
    have A9 := Aside0.mk A90
    clear A90
    replace H := Option.bind_eq_some_iff.mp H
    obtain ⟨t251, A100, H⟩ := H
    replace H : ((gampref01_creases.f kj3 l0 a2).bind fun t254 => (gampref01_Folds.l0 kj3 l0 t248 t251 t254 0)) = some r := H
    have A10 := Aside0.mk A100
    clear A100
    replace H := Option.bind_eq_some_iff.mp H
    obtain ⟨t254, A110, H⟩ := H
    replace H : (gampref01_Folds.l0 kj3 l0 t248 t251 t254 0) = some r := H
    have A11 := Aside0.mk A110
    clear A110
    have H' := Aside0.mk H
    clear H
    go_wp2_with (first | ((with_reducible refine gate_callee (f := 59) rfl ?_); refine gL 22 Try.func59 #[.slice A0 l0.length c0] ?_; (with_reducible refine (gampref01_places.calls kj3 _ _ l0 t248 _ ?side1 ?side2 A9.out).mono ?_); (case side1 => exact cl (Kd.C_below HR0.out HB.out)); (case side2 => exact HC0.out); rintro e w12 ⟨v249, rfl, ho0, hb⟩; refine ⟨_, rfl, ?_⟩; have n0_ := Aside0.mk (Kd.R_lower ho0 (below_size (bl HB))); have n1_ := Aside0.mk (below_step (bl HB) hb); clear HB; have HO250 := n0_; have HB := n1_; clear n0_ n1_; (try clear hb); (try clear hb2); (try clear hk); (try clear hi); (try clear ho0)) | ((with_reducible refine gate_callee (f := 60) rfl ?_); refine gL 24 Try.func60 #[.slice A1 l1.length c1] ?_; (with_reducible refine (gampref01_layers.calls kj3 _ _ l1 t251 _ ?side1 ?side2 A10.out).mono ?_); (case side1 => exact cl (Kd.C_below HR1.out HB.out)); (case side2 => exact HC1.out); rintro e w13 ⟨v252, rfl, ho0, hb⟩; refine ⟨_, rfl, ?_⟩; have n0_ := Aside0.mk (Kd.R_elder' (rl HO250) (Kd.R_base ho0) hb); have n1_ := Aside0.mk (Kd.R_lower (Kd.R_new' ho0 (Kd.R_lt (rl HO250))) (below_size (bl HB))); have n2_ := Aside0.mk (below_step (bl HB) hb); clear HO250; clear HB; have HO250 := n0_; have HO253 := n1_; have HB := n2_; clear n0_ n1_ n2_; (try clear hb); (try clear hb2); (try clear hk); (try clear hi); (try clear ho0)) | ((with_reducible refine gate_callee (f := 61) rfl ?_); refine gL 27 Try.func61 #[.slice A0 l0.length c0, .bool a2] ?_; (with_reducible refine (gampref01_creases.calls kj3 _ _ l0 a2 t254 _ ?side1 ?side2 A11.out).mono ?_); (case side1 => exact cl (Kd.C_below HR0.out HB.out)); (case side2 => exact HC0.out); rintro e w14 ⟨v255, rfl, ho0, hb⟩; refine ⟨_, rfl, ?_⟩; have n0_ := Aside0.mk (Kd.R_below (rl HO250) hb); have n1_ := Aside0.mk (Kd.R_below (rl HO253) hb); have n2_ := Aside0.mk (Kd.R_lower ho0 (below_size (bl HB))); have n3_ := Aside0.mk (below_step (bl HB) hb); clear HO250; clear HO253; clear HB; have HO250 := n0_; have HO253 := n1_; have HO256 := n2_; have HB := n3_; clear n0_ n1_ n2_ n3_; (try clear hb); (try clear hb2); (try clear hk); (try clear hi); (try clear ho0)))
    go_loopg [10] kj3 (fun kq v10 w' => ∃ (x10_2 : Int), v10 = .int .i64 x10_2 ∧ Aside0 (gampref01_Folds.l0 kq l0 t248 t251 t254 x10_2 = some r) ∧ Aside0 (kq ≤ kj3) ∧ Aside0 (Kd.R (Kd.int .i64) 3 w' w.heap.size (fun k_ => some k_ ≠ (v252 : Value).ownBlock) v249 t248) ∧ Aside0 (Kd.R (Kd.int .i64) 3 w' w.heap.size (fun k_ => some k_ ≠ (v249 : Value).ownBlock) v252 t251) ∧ Aside0 (Kd.R k88 88 w' w.heap.size (fun _ => True) v255 t254) ∧ Aside0 (Below w.heap.size w w'))
    case atStart => exact ⟨(0), (by first | rfl | (simp; done) | (simp [*]; done)), H', ⟨Nat.le_refl _⟩, ⟨by (with_reducible repeat (first | apply Kd.R_alloc | apply Kd.R_drewN | apply Kd.R_drew)); exact Kd.R_mono HO250.out (fun _ hk => hk.2)⟩, ⟨by (with_reducible repeat (first | apply Kd.R_alloc | apply Kd.R_drewN | apply Kd.R_drew)); exact Kd.R_mono HO253.out (fun _ hk => hk.2)⟩, ⟨rl HO256⟩, ⟨bl HB⟩⟩
    case round =>
     clear H'
     try clear c1
     try clear p2
     try clear c3
     try clear c5
     try clear c6
     try clear c8
     try clear p2
     obtain ⟨x10_2, rfl, HA, HK2, HO_7, HO_8, HO_9, HB⟩ := hrel
     cases gk with
     | zero => exact absurd HA.out (by simp [gampref01_Folds.l0])
     | succ k2 =>
      have H := HA.out
      clear HA
      simp only [gampref01_Folds.l0] at H
      by_cases c15 : x10_2 < (t254.length : Int)
      ·rw [if_pos c15] at H
       have c15b0 : decide (x10_2 < (t254.length : Int)) = true := decide_eq_true c15
       clear c15
       by_cases c16 : 0 ≤ x10_2
       ·rw [if_pos c16] at H
        have c16b0 : decide (0 ≤ x10_2) = true := decide_eq_true c16
        clear c16
        by_cases c17 : 0 ≤ ((rd_T88 t254 x10_2).f1)
        ·rw [if_pos c17] at H
         have c17b0 : decide (0 ≤ ((rd_T88 t254 x10_2).f1)) = true := decide_eq_true c17
         clear c17
         by_cases c18 : ((rd_T88 t254 x10_2).f1) < (t251.length : Int)
         ·rw [if_pos c18] at H
          have c18b0 : decide (((rd_T88 t254 x10_2).f1) < (t251.length : Int)) = true := decide_eq_true c18
          clear c18
          by_cases c19 : 0 ≤ ((rd_T88 t254 x10_2).f2)
          ·rw [if_pos c19] at H
           have c19b0 : decide (0 ≤ ((rd_T88 t254 x10_2).f2)) = true := decide_eq_true c19
           clear c19
           by_cases c20 : ((rd_T88 t254 x10_2).f2) < (t251.length : Int)
           ·rw [if_pos c20] at H
            have c20b0 : decide (((rd_T88 t254 x10_2).f2) < (t251.length : Int)) = true := decide_eq_true c20
            clear c20
            have H' := Aside0.mk H
            clear H
            obtain ⟨Ao21, co21, eo21⟩ := Kd.R_slice HO_9.out
            subst eo21
            try go_wp2
            have n0_ := Aside0.mk (Kd.R_drew HO_7.out)
            have n1_ := Aside0.mk (Kd.R_drew HO_8.out)
            have n2_ := Aside0.mk (Kd.R_drew HO_9.out)
            have n3_ := Aside0.mk (below_drew1 HB.out)
            clear HO_7
            clear HO_8
            clear HO_9
            clear HB
            have HO_7 := n0_
            have HO_8 := n1_
            have HO_9 := n2_
            have HB := n3_
            clear n0_ n1_ n2_ n3_
            have p257 : 0 ≤ (x10_2 : Int) := ofd
            have q257 : x10_2 < (t254.length : Int) := ofd
            obtain ⟨ad257, e257, hx257_0, hx257_1, hx257_2, hx257_3⟩ := at_T88 (Kd.R_reads' HO_9.out).2.2 x10_2 p257 q257
            cases e257
            replace p257 := eq_true p257
            replace q257 := eq_true q257
            obtain ⟨Ao23, co23, eo23⟩ := Kd.R_slice HO_8.out
            (first | subst eo23 | (injection eo23 with f1_ f2_ f3_; have f4_ := f1_.symm; have f5_ := f3_.symm; clear f1_ f2_ f3_; subst f4_; subst f5_))
            have p258 : 0 ≤ (((rd_T88 t254 x10_2).f1) : Int) := ofd
            have q258 : ((rd_T88 t254 x10_2).f1) < (t251.length : Int) := ofd
            obtain ⟨ad258, e258, hx258_0⟩ := Kd.at_int (Kd.R_reads' HO_8.out).2.2 ((rd_T88 t254 x10_2).f1) p258 q258
            cases e258
            replace p258 := eq_true p258
            replace q258 := eq_true q258
            have p259 : 0 ≤ (x10_2 : Int) := ofd
            have q259 : x10_2 < (t254.length : Int) := ofd
            obtain ⟨ad259, e259, hx259_0, hx259_1, hx259_2, hx259_3⟩ := at_T88 (Kd.R_reads' HO_9.out).2.2 x10_2 p259 q259
            obtain rfl : ad257 = ad259 := (by injection e259)
            replace p259 := eq_true p259
            replace q259 := eq_true q259
            have p260 : 0 ≤ (((rd_T88 t254 x10_2).f2) : Int) := ofd
            have q260 : ((rd_T88 t254 x10_2).f2) < (t251.length : Int) := ofd
            obtain ⟨ad260, e260, hx260_0⟩ := Kd.at_int (Kd.R_reads' HO_8.out).2.2 ((rd_T88 t254 x10_2).f2) p260 q260
            obtain rfl : ad258 = ad260 := (by injection e260)
            replace p260 := eq_true p260
            replace q260 := eq_true q260
            refine start_ (n := 18) (S := fun w' => w'.cell? (ad257.add ((x10_2).toNat * 4)) = some (.int .i64 ((rd_T88 t254 x10_2).f0)) ∧ w'.cell? ⟨(ad257.add ((x10_2).toNat * 4)).block, (ad257.add ((x10_2).toNat * 4)).off + 1, none⟩ = some (.int .i64 ((rd_T88 t254 x10_2).f1)) ∧ w'.cell? ⟨(ad257.add ((x10_2).toNat * 4)).block, (ad257.add ((x10_2).toNat * 4)).off + 2, none⟩ = some (.int .i64 ((rd_T88 t254 x10_2).f2)) ∧ w'.cell? ⟨(ad257.add ((x10_2).toNat * 4)).block, (ad257.add ((x10_2).toNat * 4)).off + 3, none⟩ = some (.bool ((rd_T88 t254 x10_2).f3)) ∧ w'.cell? (ad258.add (((rd_T88 t254 x10_2).f1)).toNat) = some (.int .i64 (rd t251 ((rd_T88 t254 x10_2).f1))) ∧ w'.cell? (ad257.add ((x10_2).toNat * 4)) = some (.int .i64 ((rd_T88 t254 x10_2).f0)) ∧ w'.cell? ⟨(ad257.add ((x10_2).toNat * 4)).block, (ad257.add ((x10_2).toNat * 4)).off + 1, none⟩ = some (.int .i64 ((rd_T88 t254 x10_2).f1)) ∧ w'.cell? ⟨(ad257.add ((x10_2).toNat * 4)).block, (ad257.add ((x10_2).toNat * 4)).off + 2, none⟩ = some (.int .i64 ((rd_T88 t254 x10_2).f2)) ∧ w'.cell? ⟨(ad257.add ((x10_2).toNat * 4)).block, (ad257.add ((x10_2).toNat * 4)).off + 3, none⟩ = some (.bool ((rd_T88 t254 x10_2).f3)) ∧ w'.cell? (ad258.add (((rd_T88 t254 x10_2).f2)).toNat) = some (.int .i64 (rd t251 ((rd_T88 t254 x10_2).f2)))) (ds := []) #[false, false, false, false, false, false, false, false, false, false, false, false, false, false, false, false, false, false] (by kernel_rfl) rfl rfl ⟨hx257_0, hx257_1, hx257_2, hx257_3, hx258_0, hx259_0, hx259_1, hx259_2, hx259_3, hx260_0⟩ (fun hHeld => ?_); refine with_tabW gampref01_Folds.tab7 gampref01_Folds.bits7 (fun HT_ HW_ => ?_)
            generalize wr.drew = w22 at HO_7 HO_8 HO_9 HB hx257_0 hx257_1 hx257_2 hx257_3 hx258_0 hx259_0 hx259_1 hx259_2 hx259_3 hx260_0 hHeld ⊢
            refine pr 0 34 HT_ ?_
            refine pr 1 35 HT_ ?_
            refine pr 2 36 HT_ ?_
            refine pr 3 37 HT_ ?_
            refine pr 4 38 HT_ ?_
            refine pr 8 42 HT_ ?_
            refine pr 9 43 HT_ ?_
            refine pr 10 44 HT_ ?_
            refine pr 11 45 HT_ ?_
            refine pr 12 46 HT_ ?_
            refine tr 5 39 HT_ HW_ hHeld ?_
            refine pr 6 40 HT_ ?_
            refine tr 7 41 HT_ HW_ hHeld ?_
            refine pr 16 11 HT_ ?_
            refine tr 13 47 HT_ HW_ hHeld ?_
            refine pr 14 48 HT_ ?_
            refine tr 15 49 HT_ HW_ hHeld ?_
            refine pr 17 12 HT_ ?_
            refine dn HT_ ?_
            try go_wp2
            go_loopg [13] k2 (fun kq v13 w' => ∃ (x13_3 : Int), v13 = .int .i64 x13_3 ∧ Aside0 (gampref01_Folds.l1 kq l0 t248 t251 t254 x10_2 (rd t251 ((rd_T88 t254 x10_2).f1)) (rd t251 ((rd_T88 t254 x10_2).f2)) x13_3 = some r) ∧ Aside0 (kq ≤ k2) ∧ Aside0 (Kd.R (Kd.int .i64) 3 w' w.heap.size (fun k_ => some k_ ≠ ((.slice (some ad258) t251.length co23) : Value).ownBlock) v249 t248) ∧ Aside0 (Kd.R (Kd.int .i64) 3 w' w.heap.size (fun k_ => some k_ ≠ (v249 : Value).ownBlock) (.slice (some ad258) t251.length co23) t251) ∧ Aside0 (Kd.R k88 88 w' w.heap.size (fun _ => True) (.slice (some ad257) t254.length co21) t254) ∧ Aside0 (Below w.heap.size w w'))
            case atStart => exact ⟨(0), (by first | rfl | (simp; done) | (simp [*]; done)), H', ⟨Nat.le_refl _⟩, ⟨rl HO_7⟩, ⟨rl HO_8⟩, ⟨rl HO_9⟩, ⟨bl HB⟩⟩
            case round =>
             clear H'
             try clear c1
             try clear c2
             try clear p2
             try clear q2
             try clear hx2
             try clear c3
             try clear c5
             try clear c6
             try clear c8
             try clear c15
             try clear c15b0
             try clear c16
             try clear c16b0
             try clear c17
             try clear c17b0
             try clear c18
             try clear c18b0
             try clear c19
             try clear c19b0
             try clear c20
             try clear c20b0
             try clear hx257_0
             try clear hx257_1
             try clear hx257_2
             try clear hx257_3
             try clear hx258_0
             try clear hx259_0
             try clear hx259_1
             try clear hx259_2
             try clear hx259_3
             try clear hx260_0
             try clear p2
             try clear p257
             try clear p258
             try clear p259
             try clear p260
             try clear q257
             try clear q258
             try clear q259
             try clear q260
             obtain ⟨x13_3, rfl, HA, HK3, HO_7, HO_8, HO_9, HB⟩ := hrel
             cases gk with
             | zero => exact absurd HA.out (by simp [gampref01_Folds.l1])
             | succ k3 =>
              have H := HA.out
              clear HA
              simp only [gampref01_Folds.l1] at H
              by_cases c24 : x13_3 < (l0.length : Int)
              ·rw [if_pos c24] at H
               have c24b0 : decide (x13_3 < (l0.length : Int)) = true := decide_eq_true c24
               clear c24
               by_cases c25 : 0 ≤ x10_2
               ·rw [if_pos c25] at H
                have c25b0 : decide (0 ≤ x10_2) = true := decide_eq_true c25
                clear c25
                by_cases c26 : x10_2 < (t254.length : Int)
                ·rw [if_pos c26] at H
                 have c26b0 : decide (x10_2 < (t254.length : Int)) = true := decide_eq_true c26
                 clear c26
                 by_cases c27 : 0 ≤ x13_3
                 ·rw [if_pos c27] at H
                  have c27b0 : decide (0 ≤ x13_3) = true := decide_eq_true c27
                  clear c27
                  by_cases c28 : x13_3 < (t248.length : Int)
                  ·rw [if_pos c28] at H
                   have c28b0 : decide (x13_3 < (t248.length : Int)) = true := decide_eq_true c28
                   clear c28
                   obtain ⟨ji29, hji29⟩ : ∃ j_ : Int, (wrap64 (x13_3 + 1)) = j_ := ⟨_, rfl⟩
                   replace H : (if 0 ≤ (ji29) then (if (ji29) < (t248.length : Int) then ((gampref01_between.f ((rd_T88 t254 x10_2).f0) (rd t248 x13_3) (rd t248 (ji29))).bind fun t264 => (if t264 = true then (if x13_3 < (t251.length : Int) then ((gampref01_between.f (rd t251 x13_3) (rd t251 ((rd_T88 t254 x10_2).f1)) (rd t251 ((rd_T88 t254 x10_2).f2))).bind fun t266 => (if t266 = true then (some false) else (gampref01_Folds.l1 k3 l0 t248 t251 t254 x10_2 (rd t251 ((rd_T88 t254 x10_2).f1)) (rd t251 ((rd_T88 t254 x10_2).f2)) ji29))) else (none)) else (gampref01_Folds.l1 k3 l0 t248 t251 t254 x10_2 (rd t251 ((rd_T88 t254 x10_2).f1)) (rd t251 ((rd_T88 t254 x10_2).f2)) ji29))) else (none)) else (none)) = some r := by first | (rw [hji29] at H; exact H) | (simp only [hji29] at H ⊢; exact H)
                   have hji29w : (IntKind.i64.wrap (x13_3 + 1)) = ji29 := (i64_w _).trans hji29
                   by_cases c30 : 0 ≤ (ji29)
                   ·rw [if_pos c30] at H
                    have c30b0 : decide (0 ≤ (ji29)) = true := decide_eq_true c30
                    clear c30
                    by_cases c31 : (ji29) < (t248.length : Int)
                    ·rw [if_pos c31] at H
                     have c31b0 : decide ((ji29) < (t248.length : Int)) = true := decide_eq_true c31
                     clear c31
                     replace H := Option.bind_eq_some_iff.mp H
                     obtain ⟨t264, A320, H⟩ := H
                     replace H : (if t264 = true then (if x13_3 < (t251.length : Int) then ((gampref01_between.f (rd t251 x13_3) (rd t251 ((rd_T88 t254 x10_2).f1)) (rd t251 ((rd_T88 t254 x10_2).f2))).bind fun t266 => (if t266 = true then (some false) else (gampref01_Folds.l1 k3 l0 t248 t251 t254 x10_2 (rd t251 ((rd_T88 t254 x10_2).f1)) (rd t251 ((rd_T88 t254 x10_2).f2)) ji29))) else (none)) else (gampref01_Folds.l1 k3 l0 t248 t251 t254 x10_2 (rd t251 ((rd_T88 t254 x10_2).f1)) (rd t251 ((rd_T88 t254 x10_2).f2)) ji29)) = some r := H
                     have A32 := Aside0.mk A320
                     clear A320
                     by_cases c33 : t264 = true
                     ·subst c33
                      have H1 : (if x13_3 < (t251.length : Int) then ((gampref01_between.f (rd t251 x13_3) (rd t251 ((rd_T88 t254 x10_2).f1)) (rd t251 ((rd_T88 t254 x10_2).f2))).bind fun t266 => (if t266 = true then (some false) else (gampref01_Folds.l1 k3 l0 t248 t251 t254 x10_2 (rd t251 ((rd_T88 t254 x10_2).f1)) (rd t251 ((rd_T88 t254 x10_2).f2)) ji29))) else (none)) = some r := by rw [if_pos rfl] at H; exact H
                      clear H
                      have H := H1
                      clear H1
                      by_cases c34 : x13_3 < (t251.length : Int)
                      ·rw [if_pos c34] at H
                       have c34b0 : decide (x13_3 < (t251.length : Int)) = true := decide_eq_true c34
                       clear c34
                       replace H := Option.bind_eq_some_iff.mp H
                       obtain ⟨t266, A350, H⟩ := H
                       replace H : (if t266 = true then (some false) else (gampref01_Folds.l1 k3 l0 t248 t251 t254 x10_2 (rd t251 ((rd_T88 t254 x10_2).f1)) (rd t251 ((rd_T88 t254 x10_2).f2)) ji29)) = some r := H
                       have A35 := Aside0.mk A350
                       clear A350
                       by_cases c36 : t266 = true
                       ·subst c36
                        have H1 : (some false) = some r := by rw [if_pos rfl] at H; exact H
                        clear H
                        have H := H1
                        clear H1
                        obtain rfl := Option.some.inj H
                        try go_wp2
                        have n0_ := Aside0.mk (Kd.R_drew HO_7.out)
                        have n1_ := Aside0.mk (Kd.R_drew HO_8.out)
                        have n2_ := Aside0.mk (Kd.R_drew HO_9.out)
                        have n3_ := Aside0.mk (below_drew1 HB.out)
                        clear HO_7
                        clear HO_8
                        clear HO_9
                        clear HB
                        have HO_7 := n0_
                        have HO_8 := n1_
                        have HO_9 := n2_
                        have HB := n3_
                        clear n0_ n1_ n2_ n3_
                        have p261 : 0 ≤ (x10_2 : Int) := ofd
                        have q261 : x10_2 < (t254.length : Int) := ofd
                        obtain ⟨ad261, e261, hx261_0, hx261_1, hx261_2, hx261_3⟩ := at_T88 (Kd.R_reads' HO_9.out).2.2 x10_2 p261 q261
                        obtain rfl : ad257 = ad261 := (by injection e261)
                        replace p261 := eq_true p261
                        replace q261 := eq_true q261
                        obtain ⟨Ao38, co38, eo38⟩ := Kd.R_slice HO_7.out
                        (first | subst eo38 | (injection eo38 with f1_ f2_ f3_; have f4_ := f1_.symm; have f5_ := f3_.symm; clear f1_ f2_ f3_; subst f4_; subst f5_))
                        have p262 : 0 ≤ (x13_3 : Int) := ofd
                        have q262 : x13_3 < (t248.length : Int) := ofd
                        obtain ⟨ad262, e262, hx262_0⟩ := Kd.at_int (Kd.R_reads' HO_7.out).2.2 x13_3 p262 q262
                        cases e262
                        replace p262 := eq_true p262
                        replace q262 := eq_true q262
                        have p263 : 0 ≤ ((ji29) : Int) := ofd
                        have q263 : (ji29) < (t248.length : Int) := ofd
                        obtain ⟨ad263, e263, hx263_0⟩ := Kd.at_int (Kd.R_reads' HO_7.out).2.2 (ji29) p263 q263
                        obtain rfl : ad262 = ad263 := (by injection e263)
                        replace p263 := eq_true p263
                        replace q263 := eq_true q263
                        have p265 : 0 ≤ (x13_3 : Int) := ofd
                        have q265 : x13_3 < (t251.length : Int) := ofd
                        obtain ⟨ad265, e265, hx265_0⟩ := Kd.at_int (Kd.R_reads' HO_8.out).2.2 x13_3 p265 q265
                        obtain rfl : ad258 = ad265 := (by injection e265)
                        replace p265 := eq_true p265
                        replace q265 := eq_true q265
                        refine start_ (n := 24) (S := fun w' => w'.cell? (ad257.add ((x10_2).toNat * 4)) = some (.int .i64 ((rd_T88 t254 x10_2).f0)) ∧ w'.cell? ⟨(ad257.add ((x10_2).toNat * 4)).block, (ad257.add ((x10_2).toNat * 4)).off + 1, none⟩ = some (.int .i64 ((rd_T88 t254 x10_2).f1)) ∧ w'.cell? ⟨(ad257.add ((x10_2).toNat * 4)).block, (ad257.add ((x10_2).toNat * 4)).off + 2, none⟩ = some (.int .i64 ((rd_T88 t254 x10_2).f2)) ∧ w'.cell? ⟨(ad257.add ((x10_2).toNat * 4)).block, (ad257.add ((x10_2).toNat * 4)).off + 3, none⟩ = some (.bool ((rd_T88 t254 x10_2).f3)) ∧ w'.cell? (ad262.add (x13_3).toNat) = some (.int .i64 (rd t248 x13_3)) ∧ w'.cell? (ad262.add ((ji29)).toNat) = some (.int .i64 (rd t248 (ji29))) ∧ w'.cell? (ad258.add (x13_3).toNat) = some (.int .i64 (rd t251 x13_3))) (ds := []) #[false, false, false, false, false, false, false, false, false, false, false, false, false, false, false, false, false, false, false, false, false, false, false, false] (by kernel_rfl) rfl rfl ⟨hx261_0, hx261_1, hx261_2, hx261_3, hx262_0, hx263_0, hx265_0⟩ (fun hHeld => ?_); refine with_tabW gampref01_Folds.tab11 gampref01_Folds.bits11 (fun HT_ HW_ => ?_)
                        generalize wr.drew = w37 at HO_7 HO_8 HO_9 HB hx261_0 hx261_1 hx261_2 hx261_3 hx262_0 hx263_0 hx265_0 hHeld ⊢
                        refine pr 0 56 HT_ ?_
                        refine pr 1 57 HT_ ?_
                        refine pr 2 58 HT_ ?_
                        refine pr 3 59 HT_ ?_
                        refine pr 5 61 HT_ ?_
                        refine pr 6 62 HT_ ?_
                        refine pr 7 63 HT_ ?_
                        refine pr 9 65 HT_ ?_
                        refine pr 10 66 HT_ ?_
                        refine pr 11 67 HT_ ?_
                        refine pr 12 68 HT_ ?_
                        refine tr 4 60 HT_ HW_ hHeld ?_
                        refine tr 8 64 HT_ HW_ hHeld ?_
                        refine tr 13 69 HT_ HW_ hHeld ?_
                        refine on 14 (some 70) HT_ (fun K hK => ?_)
                        refine goes_ Try.func62 (by kernel_rfl) rfl #[.int .i64 ((rd_T88 t254 x10_2).f0), .int .i64 (rd t248 x13_3), .int .i64 (rd t248 (ji29))] (by rfl) rfl rfl (by (try simp only [List.map_toArray, List.map_cons, List.map_nil]); first | done | (simp only [hji29]; rfl) | rfl | (simp only [List.length_drop, List.length_take]; rfl)) ?_
                        with_reducible refine (gampref01_between.calls ((rd_T88 t254 x10_2).f0) (rd t248 x13_3) (rd t248 (ji29)) true _ A32.out).mono ?_
                        rintro e w39 ⟨rfl, hb⟩
                        have HS0_ := (hb.cell (World.block_lt_of_cell? _ _ (hHeld.1))).trans (hHeld.1)
                        have HS1_ := (hb.cell (World.block_lt_of_cell? _ _ (hHeld.2.1))).trans (hHeld.2.1)
                        have HS2_ := (hb.cell (World.block_lt_of_cell? _ _ (hHeld.2.2.1))).trans (hHeld.2.2.1)
                        have HS3_ := (hb.cell (World.block_lt_of_cell? _ _ (hHeld.2.2.2.1))).trans (hHeld.2.2.2.1)
                        have HS4_ := (hb.cell (World.block_lt_of_cell? _ _ (hHeld.2.2.2.2.1))).trans (hHeld.2.2.2.2.1)
                        have HS5_ := (hb.cell (World.block_lt_of_cell? _ _ (hHeld.2.2.2.2.2.1))).trans (hHeld.2.2.2.2.2.1)
                        have HS6_ := (hb.cell (World.block_lt_of_cell? _ _ (hHeld.2.2.2.2.2.2))).trans (hHeld.2.2.2.2.2.2)
                        refine ⟨_, rfl, ?_⟩
                        have n0_ := Aside0.mk (Kd.R_below (rl HO_7) hb)
                        have n1_ := Aside0.mk (Kd.R_below (rl HO_8) hb)
                        have n2_ := Aside0.mk (Kd.R_below (rl HO_9) hb)
                        have n3_ := Aside0.mk (below_step (bl HB) hb)
                        clear HO_7
                        clear HO_8
                        clear HO_9
                        clear HB
                        have HO_7 := n0_
                        have HO_8 := n1_
                        have HO_9 := n2_
                        have HB := n3_
                        clear n0_ n1_ n2_ n3_
                        (try clear hb)
                        (try clear hb2)
                        (try clear hk)
                        (try clear hi)
                        refine hK.out _ _ ⟨HS0_, HS1_, HS2_, HS3_, HS4_, HS5_, HS6_⟩ (fun hHeld => ?_)
                        clear hK K
                        refine nr (some 70) ?_
                        refine pr 15 71 HT_ ?_
                        refine pr 16 72 HT_ ?_
                        refine pr 17 73 HT_ ?_
                        refine pr 18 74 HT_ ?_
                        refine pr 20 76 HT_ ?_
                        refine pr 21 77 HT_ ?_
                        refine tr 19 75 HT_ HW_ hHeld ?_
                        refine on 22 (some 78) HT_ (fun K hK => ?_)
                        refine gS Try.func62 #[.int .i64 (rd t251 x13_3), .int .i64 (rd t251 ((rd_T88 t254 x10_2).f1)), .int .i64 (rd t251 ((rd_T88 t254 x10_2).f2))] ?_
                        with_reducible refine (gampref01_between.calls (rd t251 x13_3) (rd t251 ((rd_T88 t254 x10_2).f1)) (rd t251 ((rd_T88 t254 x10_2).f2)) true _ A35.out).mono ?_
                        rintro e w40 ⟨rfl, hb⟩
                        have HS0_ := (hb.cell (World.block_lt_of_cell? _ _ (hHeld.1))).trans (hHeld.1)
                        have HS1_ := (hb.cell (World.block_lt_of_cell? _ _ (hHeld.2.1))).trans (hHeld.2.1)
                        have HS2_ := (hb.cell (World.block_lt_of_cell? _ _ (hHeld.2.2.1))).trans (hHeld.2.2.1)
                        have HS3_ := (hb.cell (World.block_lt_of_cell? _ _ (hHeld.2.2.2.1))).trans (hHeld.2.2.2.1)
                        have HS4_ := (hb.cell (World.block_lt_of_cell? _ _ (hHeld.2.2.2.2.1))).trans (hHeld.2.2.2.2.1)
                        have HS5_ := (hb.cell (World.block_lt_of_cell? _ _ (hHeld.2.2.2.2.2.1))).trans (hHeld.2.2.2.2.2.1)
                        have HS6_ := (hb.cell (World.block_lt_of_cell? _ _ (hHeld.2.2.2.2.2.2))).trans (hHeld.2.2.2.2.2.2)
                        refine ⟨_, rfl, ?_⟩
                        have n0_ := Aside0.mk (Kd.R_below (rl HO_7) hb)
                        have n1_ := Aside0.mk (Kd.R_below (rl HO_8) hb)
                        have n2_ := Aside0.mk (Kd.R_below (rl HO_9) hb)
                        have n3_ := Aside0.mk (below_step (bl HB) hb)
                        clear HO_7
                        clear HO_8
                        clear HO_9
                        clear HB
                        have HO_7 := n0_
                        have HO_8 := n1_
                        have HO_9 := n2_
                        have HB := n3_
                        clear n0_ n1_ n2_ n3_
                        (try clear hb)
                        (try clear hb2)
                        (try clear hk)
                        (try clear hi)
                        refine hK.out _ _ ⟨HS0_, HS1_, HS2_, HS3_, HS4_, HS5_, HS6_⟩ (fun hHeld => ?_)
                        clear hK K
                        refine nr (some 78) ?_
                        refine pr 23 79 HT_ ?_
                        refine dn HT_ ?_
                        try go_wp2
                        go_ret
                        exact ⟨by first | rfl | (simp [errW_none, errW_some] <;> rfl) | (simp only [← hji29]; first | rfl | (simp [errW_none, errW_some] <;> rfl)) | (simp [*, errW_none, errW_some] <;> rfl), by repeat (first | (with_reducible first | exact HB.out | apply below_alloc | apply pw_below_drewN | apply below_drew1) | exact HB.out)⟩
                       ·replace c36 := Bool.eq_false_iff.mpr c36
                        subst c36
                        have H1 : (gampref01_Folds.l1 k3 l0 t248 t251 t254 x10_2 (rd t251 ((rd_T88 t254 x10_2).f1)) (rd t251 ((rd_T88 t254 x10_2).f2)) ji29) = some r := by rw [if_neg (show ¬ (false = true) by decide)] at H; exact H
                        clear H
                        have H := H1
                        clear H1
                        have H' := Aside0.mk H
                        clear H
                        try go_wp2
                        have n0_ := Aside0.mk (Kd.R_drew HO_7.out)
                        have n1_ := Aside0.mk (Kd.R_drew HO_8.out)
                        have n2_ := Aside0.mk (Kd.R_drew HO_9.out)
                        have n3_ := Aside0.mk (below_drew1 HB.out)
                        clear HO_7
                        clear HO_8
                        clear HO_9
                        clear HB
                        have HO_7 := n0_
                        have HO_8 := n1_
                        have HO_9 := n2_
                        have HB := n3_
                        clear n0_ n1_ n2_ n3_
                        have p261 : 0 ≤ (x10_2 : Int) := ofd
                        have q261 : x10_2 < (t254.length : Int) := ofd
                        obtain ⟨ad261, e261, hx261_0, hx261_1, hx261_2, hx261_3⟩ := at_T88 (Kd.R_reads' HO_9.out).2.2 x10_2 p261 q261
                        obtain rfl : ad257 = ad261 := (by injection e261)
                        replace p261 := eq_true p261
                        replace q261 := eq_true q261
                        obtain ⟨Ao42, co42, eo42⟩ := Kd.R_slice HO_7.out
                        (first | subst eo42 | (injection eo42 with f1_ f2_ f3_; have f4_ := f1_.symm; have f5_ := f3_.symm; clear f1_ f2_ f3_; subst f4_; subst f5_))
                        have p262 : 0 ≤ (x13_3 : Int) := ofd
                        have q262 : x13_3 < (t248.length : Int) := ofd
                        obtain ⟨ad262, e262, hx262_0⟩ := Kd.at_int (Kd.R_reads' HO_7.out).2.2 x13_3 p262 q262
                        cases e262
                        replace p262 := eq_true p262
                        replace q262 := eq_true q262
                        have p263 : 0 ≤ ((ji29) : Int) := ofd
                        have q263 : (ji29) < (t248.length : Int) := ofd
                        obtain ⟨ad263, e263, hx263_0⟩ := Kd.at_int (Kd.R_reads' HO_7.out).2.2 (ji29) p263 q263
                        obtain rfl : ad262 = ad263 := (by injection e263)
                        replace p263 := eq_true p263
                        replace q263 := eq_true q263
                        have p265 : 0 ≤ (x13_3 : Int) := ofd
                        have q265 : x13_3 < (t251.length : Int) := ofd
                        obtain ⟨ad265, e265, hx265_0⟩ := Kd.at_int (Kd.R_reads' HO_8.out).2.2 x13_3 p265 q265
                        obtain rfl : ad258 = ad265 := (by injection e265)
                        replace p265 := eq_true p265
                        replace q265 := eq_true q265
                        refine start_ (n := 24) (S := fun w' => w'.cell? (ad257.add ((x10_2).toNat * 4)) = some (.int .i64 ((rd_T88 t254 x10_2).f0)) ∧ w'.cell? ⟨(ad257.add ((x10_2).toNat * 4)).block, (ad257.add ((x10_2).toNat * 4)).off + 1, none⟩ = some (.int .i64 ((rd_T88 t254 x10_2).f1)) ∧ w'.cell? ⟨(ad257.add ((x10_2).toNat * 4)).block, (ad257.add ((x10_2).toNat * 4)).off + 2, none⟩ = some (.int .i64 ((rd_T88 t254 x10_2).f2)) ∧ w'.cell? ⟨(ad257.add ((x10_2).toNat * 4)).block, (ad257.add ((x10_2).toNat * 4)).off + 3, none⟩ = some (.bool ((rd_T88 t254 x10_2).f3)) ∧ w'.cell? (ad262.add (x13_3).toNat) = some (.int .i64 (rd t248 x13_3)) ∧ w'.cell? (ad262.add ((ji29)).toNat) = some (.int .i64 (rd t248 (ji29))) ∧ w'.cell? (ad258.add (x13_3).toNat) = some (.int .i64 (rd t251 x13_3))) (ds := []) #[false, false, false, false, false, false, false, false, false, false, false, false, false, false, false, false, false, false, false, false, false, false, false, false] (by kernel_rfl) rfl rfl ⟨hx261_0, hx261_1, hx261_2, hx261_3, hx262_0, hx263_0, hx265_0⟩ (fun hHeld => ?_); refine with_tabW gampref01_Folds.tab11 gampref01_Folds.bits11 (fun HT_ HW_ => ?_)
                        generalize wr.drew = w41 at HO_7 HO_8 HO_9 HB hx261_0 hx261_1 hx261_2 hx261_3 hx262_0 hx263_0 hx265_0 hHeld ⊢
                        refine pr 0 56 HT_ ?_
                        refine pr 1 57 HT_ ?_
                        refine pr 2 58 HT_ ?_
                        refine pr 3 59 HT_ ?_
                        refine pr 5 61 HT_ ?_
                        refine pr 6 62 HT_ ?_
                        refine pr 7 63 HT_ ?_
                        refine pr 9 65 HT_ ?_
                        refine pr 10 66 HT_ ?_
                        refine pr 11 67 HT_ ?_
                        refine pr 12 68 HT_ ?_
                        refine tr 4 60 HT_ HW_ hHeld ?_
                        refine tr 8 64 HT_ HW_ hHeld ?_
                        refine tr 13 69 HT_ HW_ hHeld ?_
                        refine on 14 (some 70) HT_ (fun K hK => ?_)
                        refine goes_ Try.func62 (by kernel_rfl) rfl #[.int .i64 ((rd_T88 t254 x10_2).f0), .int .i64 (rd t248 x13_3), .int .i64 (rd t248 (ji29))] (by rfl) rfl rfl (by (try simp only [List.map_toArray, List.map_cons, List.map_nil]); first | done | (simp only [hji29]; rfl) | rfl | (simp only [List.length_drop, List.length_take]; rfl)) ?_
                        with_reducible refine (gampref01_between.calls ((rd_T88 t254 x10_2).f0) (rd t248 x13_3) (rd t248 (ji29)) true _ A32.out).mono ?_
                        rintro e w43 ⟨rfl, hb⟩
                        have HS0_ := (hb.cell (World.block_lt_of_cell? _ _ (hHeld.1))).trans (hHeld.1)
                        have HS1_ := (hb.cell (World.block_lt_of_cell? _ _ (hHeld.2.1))).trans (hHeld.2.1)
                        have HS2_ := (hb.cell (World.block_lt_of_cell? _ _ (hHeld.2.2.1))).trans (hHeld.2.2.1)
                        have HS3_ := (hb.cell (World.block_lt_of_cell? _ _ (hHeld.2.2.2.1))).trans (hHeld.2.2.2.1)
                        have HS4_ := (hb.cell (World.block_lt_of_cell? _ _ (hHeld.2.2.2.2.1))).trans (hHeld.2.2.2.2.1)
                        have HS5_ := (hb.cell (World.block_lt_of_cell? _ _ (hHeld.2.2.2.2.2.1))).trans (hHeld.2.2.2.2.2.1)
                        have HS6_ := (hb.cell (World.block_lt_of_cell? _ _ (hHeld.2.2.2.2.2.2))).trans (hHeld.2.2.2.2.2.2)
                        refine ⟨_, rfl, ?_⟩
                        have n0_ := Aside0.mk (Kd.R_below (rl HO_7) hb)
                        have n1_ := Aside0.mk (Kd.R_below (rl HO_8) hb)
                        have n2_ := Aside0.mk (Kd.R_below (rl HO_9) hb)
                        have n3_ := Aside0.mk (below_step (bl HB) hb)
                        clear HO_7
                        clear HO_8
                        clear HO_9
                        clear HB
                        have HO_7 := n0_
                        have HO_8 := n1_
                        have HO_9 := n2_
                        have HB := n3_
                        clear n0_ n1_ n2_ n3_
                        (try clear hb)
                        (try clear hb2)
                        (try clear hk)
                        (try clear hi)
                        refine hK.out _ _ ⟨HS0_, HS1_, HS2_, HS3_, HS4_, HS5_, HS6_⟩ (fun hHeld => ?_)
                        clear hK K
                        refine nr (some 70) ?_
                        refine pr 15 71 HT_ ?_
                        refine pr 16 72 HT_ ?_
                        refine pr 17 73 HT_ ?_
                        refine pr 18 74 HT_ ?_
                        refine pr 20 76 HT_ ?_
                        refine pr 21 77 HT_ ?_
                        refine tr 19 75 HT_ HW_ hHeld ?_
                        refine on 22 (some 78) HT_ (fun K hK => ?_)
                        refine gS Try.func62 #[.int .i64 (rd t251 x13_3), .int .i64 (rd t251 ((rd_T88 t254 x10_2).f1)), .int .i64 (rd t251 ((rd_T88 t254 x10_2).f2))] ?_
                        with_reducible refine (gampref01_between.calls (rd t251 x13_3) (rd t251 ((rd_T88 t254 x10_2).f1)) (rd t251 ((rd_T88 t254 x10_2).f2)) false _ A35.out).mono ?_
                        rintro e w44 ⟨rfl, hb⟩
                        have HS0_ := (hb.cell (World.block_lt_of_cell? _ _ (hHeld.1))).trans (hHeld.1)
                        have HS1_ := (hb.cell (World.block_lt_of_cell? _ _ (hHeld.2.1))).trans (hHeld.2.1)
                        have HS2_ := (hb.cell (World.block_lt_of_cell? _ _ (hHeld.2.2.1))).trans (hHeld.2.2.1)
                        have HS3_ := (hb.cell (World.block_lt_of_cell? _ _ (hHeld.2.2.2.1))).trans (hHeld.2.2.2.1)
                        have HS4_ := (hb.cell (World.block_lt_of_cell? _ _ (hHeld.2.2.2.2.1))).trans (hHeld.2.2.2.2.1)
                        have HS5_ := (hb.cell (World.block_lt_of_cell? _ _ (hHeld.2.2.2.2.2.1))).trans (hHeld.2.2.2.2.2.1)
                        have HS6_ := (hb.cell (World.block_lt_of_cell? _ _ (hHeld.2.2.2.2.2.2))).trans (hHeld.2.2.2.2.2.2)
                        refine ⟨_, rfl, ?_⟩
                        have n0_ := Aside0.mk (Kd.R_below (rl HO_7) hb)
                        have n1_ := Aside0.mk (Kd.R_below (rl HO_8) hb)
                        have n2_ := Aside0.mk (Kd.R_below (rl HO_9) hb)
                        have n3_ := Aside0.mk (below_step (bl HB) hb)
                        clear HO_7
                        clear HO_8
                        clear HO_9
                        clear HB
                        have HO_7 := n0_
                        have HO_8 := n1_
                        have HO_9 := n2_
                        have HB := n3_
                        clear n0_ n1_ n2_ n3_
                        (try clear hb)
                        (try clear hb2)
                        (try clear hk)
                        (try clear hi)
                        refine hK.out _ _ ⟨HS0_, HS1_, HS2_, HS3_, HS4_, HS5_, HS6_⟩ (fun hHeld => ?_)
                        clear hK K
                        refine nr (some 78) ?_
                        refine pr 23 79 HT_ ?_
                        refine dn HT_ ?_
                        try go_wp2
                        go_roundg k3
                        case measure => have := HJ3.out; have := HK2.out; have := HK3.out; omega
                        case rel => exact ⟨(ji29), (by first | rfl | (simp; done) | (simp only [← hji29] <;> (first | rfl | simp)) | (simp [*]; done)), H', ⟨by have := HJ3.out; have := HK2.out; have := HK3.out; omega⟩, ⟨rl HO_7⟩, ⟨rl HO_8⟩, ⟨rl HO_9⟩, ⟨bl HB⟩⟩
                      ·rw [if_neg c34] at H
                       exact absurd H (by simp)
                     ·replace c33 := Bool.eq_false_iff.mpr c33
                      subst c33
                      have H1 : (gampref01_Folds.l1 k3 l0 t248 t251 t254 x10_2 (rd t251 ((rd_T88 t254 x10_2).f1)) (rd t251 ((rd_T88 t254 x10_2).f2)) ji29) = some r := by rw [if_neg (show ¬ (false = true) by decide)] at H; exact H
                      clear H
                      have H := H1
                      clear H1
                      have H' := Aside0.mk H
                      clear H
                      try go_wp2
                      have n0_ := Aside0.mk (Kd.R_drew HO_7.out)
                      have n1_ := Aside0.mk (Kd.R_drew HO_8.out)
                      have n2_ := Aside0.mk (Kd.R_drew HO_9.out)
                      have n3_ := Aside0.mk (below_drew1 HB.out)
                      clear HO_7
                      clear HO_8
                      clear HO_9
                      clear HB
                      have HO_7 := n0_
                      have HO_8 := n1_
                      have HO_9 := n2_
                      have HB := n3_
                      clear n0_ n1_ n2_ n3_
                      have p261 : 0 ≤ (x10_2 : Int) := ofd
                      have q261 : x10_2 < (t254.length : Int) := ofd
                      obtain ⟨ad261, e261, hx261_0, hx261_1, hx261_2, hx261_3⟩ := at_T88 (Kd.R_reads' HO_9.out).2.2 x10_2 p261 q261
                      obtain rfl : ad257 = ad261 := (by injection e261)
                      replace p261 := eq_true p261
                      replace q261 := eq_true q261
                      obtain ⟨Ao46, co46, eo46⟩ := Kd.R_slice HO_7.out
                      (first | subst eo46 | (injection eo46 with f1_ f2_ f3_; have f4_ := f1_.symm; have f5_ := f3_.symm; clear f1_ f2_ f3_; subst f4_; subst f5_))
                      have p262 : 0 ≤ (x13_3 : Int) := ofd
                      have q262 : x13_3 < (t248.length : Int) := ofd
                      obtain ⟨ad262, e262, hx262_0⟩ := Kd.at_int (Kd.R_reads' HO_7.out).2.2 x13_3 p262 q262
                      cases e262
                      replace p262 := eq_true p262
                      replace q262 := eq_true q262
                      have p263 : 0 ≤ ((ji29) : Int) := ofd
                      have q263 : (ji29) < (t248.length : Int) := ofd
                      obtain ⟨ad263, e263, hx263_0⟩ := Kd.at_int (Kd.R_reads' HO_7.out).2.2 (ji29) p263 q263
                      obtain rfl : ad262 = ad263 := (by injection e263)
                      replace p263 := eq_true p263
                      replace q263 := eq_true q263
                      refine start_ (n := 24) (S := fun w' => w'.cell? (ad257.add ((x10_2).toNat * 4)) = some (.int .i64 ((rd_T88 t254 x10_2).f0)) ∧ w'.cell? ⟨(ad257.add ((x10_2).toNat * 4)).block, (ad257.add ((x10_2).toNat * 4)).off + 1, none⟩ = some (.int .i64 ((rd_T88 t254 x10_2).f1)) ∧ w'.cell? ⟨(ad257.add ((x10_2).toNat * 4)).block, (ad257.add ((x10_2).toNat * 4)).off + 2, none⟩ = some (.int .i64 ((rd_T88 t254 x10_2).f2)) ∧ w'.cell? ⟨(ad257.add ((x10_2).toNat * 4)).block, (ad257.add ((x10_2).toNat * 4)).off + 3, none⟩ = some (.bool ((rd_T88 t254 x10_2).f3)) ∧ w'.cell? (ad262.add (x13_3).toNat) = some (.int .i64 (rd t248 x13_3)) ∧ w'.cell? (ad262.add ((ji29)).toNat) = some (.int .i64 (rd t248 (ji29)))) (ds := []) #[false, false, false, false, false, false, false, false, false, false, false, false, false, false, false, false, false, false, false, false, false, false, false, false] (by kernel_rfl) rfl rfl ⟨hx261_0, hx261_1, hx261_2, hx261_3, hx262_0, hx263_0⟩ (fun hHeld => ?_); refine with_tabW gampref01_Folds.tab11 gampref01_Folds.bits11 (fun HT_ HW_ => ?_)
                      generalize wr.drew = w45 at HO_7 HO_8 HO_9 HB hx261_0 hx261_1 hx261_2 hx261_3 hx262_0 hx263_0 hHeld ⊢
                      refine pr 0 56 HT_ ?_
                      refine pr 1 57 HT_ ?_
                      refine pr 2 58 HT_ ?_
                      refine pr 3 59 HT_ ?_
                      refine pr 5 61 HT_ ?_
                      refine pr 6 62 HT_ ?_
                      refine pr 7 63 HT_ ?_
                      refine pr 9 65 HT_ ?_
                      refine pr 10 66 HT_ ?_
                      refine pr 11 67 HT_ ?_
                      refine pr 12 68 HT_ ?_
                      refine tr 4 60 HT_ HW_ hHeld ?_
                      refine tr 8 64 HT_ HW_ hHeld ?_
                      refine tr 13 69 HT_ HW_ hHeld ?_
                      refine on 14 (some 70) HT_ (fun K hK => ?_)
                      refine goes_ Try.func62 (by kernel_rfl) rfl #[.int .i64 ((rd_T88 t254 x10_2).f0), .int .i64 (rd t248 x13_3), .int .i64 (rd t248 (ji29))] (by rfl) rfl rfl (by (try simp only [List.map_toArray, List.map_cons, List.map_nil]); first | done | (simp only [hji29]; rfl) | rfl | (simp only [List.length_drop, List.length_take]; rfl)) ?_
                      with_reducible refine (gampref01_between.calls ((rd_T88 t254 x10_2).f0) (rd t248 x13_3) (rd t248 (ji29)) false _ A32.out).mono ?_
                      rintro e w47 ⟨rfl, hb⟩
                      have HS0_ := (hb.cell (World.block_lt_of_cell? _ _ (hHeld.1))).trans (hHeld.1)
                      have HS1_ := (hb.cell (World.block_lt_of_cell? _ _ (hHeld.2.1))).trans (hHeld.2.1)
                      have HS2_ := (hb.cell (World.block_lt_of_cell? _ _ (hHeld.2.2.1))).trans (hHeld.2.2.1)
                      have HS3_ := (hb.cell (World.block_lt_of_cell? _ _ (hHeld.2.2.2.1))).trans (hHeld.2.2.2.1)
                      have HS4_ := (hb.cell (World.block_lt_of_cell? _ _ (hHeld.2.2.2.2.1))).trans (hHeld.2.2.2.2.1)
                      have HS5_ := (hb.cell (World.block_lt_of_cell? _ _ (hHeld.2.2.2.2.2))).trans (hHeld.2.2.2.2.2)
                      refine ⟨_, rfl, ?_⟩
                      have n0_ := Aside0.mk (Kd.R_below (rl HO_7) hb)
                      have n1_ := Aside0.mk (Kd.R_below (rl HO_8) hb)
                      have n2_ := Aside0.mk (Kd.R_below (rl HO_9) hb)
                      have n3_ := Aside0.mk (below_step (bl HB) hb)
                      clear HO_7
                      clear HO_8
                      clear HO_9
                      clear HB
                      have HO_7 := n0_
                      have HO_8 := n1_
                      have HO_9 := n2_
                      have HB := n3_
                      clear n0_ n1_ n2_ n3_
                      (try clear hb)
                      (try clear hb2)
                      (try clear hk)
                      (try clear hi)
                      refine hK.out _ _ ⟨HS0_, HS1_, HS2_, HS3_, HS4_, HS5_⟩ (fun hHeld => ?_)
                      clear hK K
                      refine nr (some 70) ?_
                      refine pr 15 71 HT_ ?_
                      refine pure_ (i := 16) (N := some 72) (v := undef) (a' := ?_) #[true, true, true, true, true, true, true, true, true, true, true, true, true, true, true, true, true, false, false, false, false, false, false, false] rfl rfl (any_of HT_.out (by kernel_rfl)) (fun _ _ _ h => h) (Or.inr ⟨by rfl, rfl⟩) ?_ ?_
                      rotate_left
                      ·simp only [Act.put, List.setIfInBounds_toArray, List.set_cons_zero, List.set_cons_succ, i64_w, i32_w]
                       rfl
                      refine pure_ (i := 17) (N := some 73) (v := undef) (a' := ?_) #[true, true, true, true, true, true, true, true, true, true, true, true, true, true, true, true, true, true, false, false, false, false, false, false] rfl rfl (any_of HT_.out (by kernel_rfl)) (fun _ _ _ h => h) (Or.inr ⟨by rfl, rfl⟩) ?_ ?_
                      rotate_left
                      ·simp only [Act.put, List.setIfInBounds_toArray, List.set_cons_zero, List.set_cons_succ, i64_w, i32_w]
                       rfl
                      refine pure_ (i := 18) (N := some 74) (v := undef) (a' := ?_) #[true, true, true, true, true, true, true, true, true, true, true, true, true, true, true, true, true, true, true, false, false, false, false, false] rfl rfl (any_of HT_.out (by kernel_rfl)) (fun _ _ _ h => h) (Or.inr ⟨by rfl, rfl⟩) ?_ ?_
                      rotate_left
                      ·simp only [Act.put, List.setIfInBounds_toArray, List.set_cons_zero, List.set_cons_succ, i64_w, i32_w]
                       rfl
                      refine pure_ (i := 19) (N := some 75) (v := undef) (a' := ?_) #[true, true, true, true, true, true, true, true, true, true, true, true, true, true, true, true, true, true, true, true, false, false, false, false] rfl rfl (any_of HT_.out (by kernel_rfl)) (fun _ _ _ h => h) (Or.inr ⟨by rfl, rfl⟩) ?_ ?_
                      rotate_left
                      ·simp only [Act.put, List.setIfInBounds_toArray, List.set_cons_zero, List.set_cons_succ, i64_w, i32_w]
                       rfl
                      refine pure_ (i := 20) (N := some 76) (v := undef) (a' := ?_) #[true, true, true, true, true, true, true, true, true, true, true, true, true, true, true, true, true, true, true, true, true, false, false, false] rfl rfl (any_of HT_.out (by kernel_rfl)) (fun _ _ _ h => h) (Or.inr ⟨by rfl, rfl⟩) ?_ ?_
                      rotate_left
                      ·simp only [Act.put, List.setIfInBounds_toArray, List.set_cons_zero, List.set_cons_succ, i64_w, i32_w]
                       rfl
                      refine pure_ (i := 21) (N := some 77) (v := undef) (a' := ?_) #[true, true, true, true, true, true, true, true, true, true, true, true, true, true, true, true, true, true, true, true, true, true, false, false] rfl rfl (any_of HT_.out (by kernel_rfl)) (fun _ _ _ h => h) (Or.inr ⟨by rfl, rfl⟩) ?_ ?_
                      rotate_left
                      ·simp only [Act.put, List.setIfInBounds_toArray, List.set_cons_zero, List.set_cons_succ, i64_w, i32_w]
                       rfl
                      refine pure_ (i := 22) (N := some 78) (v := undef) (a' := ?_) #[true, true, true, true, true, true, true, true, true, true, true, true, true, true, true, true, true, true, true, true, true, true, true, false] rfl rfl (any_of HT_.out (by kernel_rfl)) (fun _ _ _ h => h) (Or.inr ⟨by rfl, rfl⟩) ?_ ?_
                      rotate_left
                      ·simp only [Act.put, List.setIfInBounds_toArray, List.set_cons_zero, List.set_cons_succ, i64_w, i32_w]
                       rfl
                      refine pr 23 79 HT_ ?_
                      refine dn HT_ ?_
                      try go_wp2
                      go_roundg k3
                      case measure => have := HJ3.out; have := HK2.out; have := HK3.out; omega
                      case rel => exact ⟨(ji29), (by first | rfl | (simp; done) | (simp only [← hji29] <;> (first | rfl | simp)) | (simp [*]; done)), H', ⟨by have := HJ3.out; have := HK2.out; have := HK3.out; omega⟩, ⟨rl HO_7⟩, ⟨rl HO_8⟩, ⟨rl HO_9⟩, ⟨bl HB⟩⟩
                    ·rw [if_neg c31] at H
                     exact absurd H (by simp)
                   ·rw [if_neg c30] at H
                    exact absurd H (by simp)
                  ·rw [if_neg c28] at H
                   exact absurd H (by simp)
                 ·rw [if_neg c27] at H
                  exact absurd H (by simp)
                ·rw [if_neg c26] at H
                 exact absurd H (by simp)
               ·rw [if_neg c25] at H
                exact absurd H (by simp)
              ·rw [if_neg c24] at H
               have c24b0 : decide (x13_3 < (l0.length : Int)) = false := decide_eq_false c24
               clear c24
               have H' := Aside0.mk H
               clear H
               go_wp2
               go_loopg [14] k3 (fun kq v14 w' => ∃ (x14_4 : Int), v14 = .int .i64 x14_4 ∧ Aside0 (gampref01_Folds.l2 kq l0 t248 t251 t254 x10_2 (rd t251 ((rd_T88 t254 x10_2).f1)) (rd t251 ((rd_T88 t254 x10_2).f2)) x14_4 = some r) ∧ Aside0 (kq ≤ k3) ∧ Aside0 (Kd.R (Kd.int .i64) 3 w' w.heap.size (fun k_ => some k_ ≠ ((.slice (some ad258) t251.length co23) : Value).ownBlock) v249 t248) ∧ Aside0 (Kd.R (Kd.int .i64) 3 w' w.heap.size (fun k_ => some k_ ≠ (v249 : Value).ownBlock) (.slice (some ad258) t251.length co23) t251) ∧ Aside0 (Kd.R k88 88 w' w.heap.size (fun _ => True) (.slice (some ad257) t254.length co21) t254) ∧ Aside0 (Below w.heap.size w w'))
               case atStart => exact ⟨(0), (by first | rfl | (simp; done) | (simp [*]; done)), H', ⟨Nat.le_refl _⟩, ⟨rl HO_7⟩, ⟨rl HO_8⟩, ⟨rl HO_9⟩, ⟨bl HB⟩⟩
               case round =>
                clear H'
                try clear c2
                try clear p2
                try clear q2
                try clear hx2
                try clear c3
                try clear c6
                try clear c24
                try clear c24b0
                try clear c25
                try clear c26
                try clear p26
                try clear q26
                try clear hx26
                try clear c27
                try clear c28
                try clear c30
                try clear c31
                try clear c33
                try clear c34
                try clear c36
                try clear hx261_0
                try clear hx261_1
                try clear hx261_2
                try clear hx261_3
                try clear hx262_0
                try clear hx263_0
                try clear hx265_0
                try clear p261
                try clear p262
                try clear p263
                try clear p265
                try clear q261
                try clear q262
                try clear q263
                try clear q265
                obtain ⟨x14_4, rfl, HA, HK4, HO_7, HO_8, HO_9, HB⟩ := hrel
                cases gk with
                | zero => exact absurd HA.out (by simp [gampref01_Folds.l2])
                | succ k4 =>
                 have H := HA.out
                 clear HA
                 simp only [gampref01_Folds.l2] at H
                 by_cases c48 : x14_4 < (t254.length : Int)
                 ·rw [if_pos c48] at H
                  have c48b0 : decide (x14_4 < (t254.length : Int)) = true := decide_eq_true c48
                  clear c48
                  by_cases c49 : x14_4 = x10_2
                  ·rw [if_pos c49] at H
                   have c49b0 : (x14_4 == x10_2) = true := beq_iff_eq.mpr c49
                   have c49b1 : (x14_4 != x10_2) = false := bne_eq_false_iff_eq.mpr c49
                   clear c49
                   have H' := Aside0.mk H
                   clear H
                   try go_wp2
                   have n0_ := Aside0.mk (Kd.R_drew HO_7.out)
                   have n1_ := Aside0.mk (Kd.R_drew HO_8.out)
                   have n2_ := Aside0.mk (Kd.R_drew HO_9.out)
                   have n3_ := Aside0.mk (below_drew1 HB.out)
                   clear HO_7
                   clear HO_8
                   clear HO_9
                   clear HB
                   have HO_7 := n0_
                   have HO_8 := n1_
                   have HO_9 := n2_
                   have HB := n3_
                   clear n0_ n1_ n2_ n3_
                   refine start_ (n := 54) (S := fun w' => True) (ds := []) #[false, false, false, false, false, false, false, false, false, false, false, false, false, false, false, false, false, false, false, false, false, false, false, false, false, false, false, false, false, false, false, false, false, false, false, false, false, false, false, false, false, false, false, false, false, false, false, false, false, false, false, false, false, false] (by kernel_rfl) rfl rfl trivial (fun hHeld => ?_); refine with_tabW gampref01_Folds.tab16 gampref01_Folds.bits16 (fun HT_ HW_ => ?_)
                   generalize wr.drew = w50 at HO_7 HO_8 HO_9 HB hHeld ⊢
                   refine pr 0 86 HT_ ?_
                   refine pr 1 87 HT_ ?_
                   refine pr 2 88 HT_ ?_
                   refine pr 3 89 HT_ ?_
                   refine pure_ (i := 4) (N := some 90) (v := undef) (a' := ?_) #[true, true, true, true, true, false, false, false, false, false, false, false, false, false, false, false, false, false, false, false, false, false, false, false, false, false, false, false, false, false, false, false, false, false, false, false, false, false, false, false, false, false, false, false, false, false, false, false, false, false, false, false, false, false] rfl rfl (any_of HT_.out (by kernel_rfl)) (fun _ _ _ h => h) (Or.inr ⟨by rfl, rfl⟩) ?_ ?_
                   rotate_left
                   ·simp only [Act.put, List.setIfInBounds_toArray, List.set_cons_zero, List.set_cons_succ, i64_w, i32_w]
                    rfl
                   refine pure_ (i := 5) (N := some 91) (v := undef) (a' := ?_) #[true, true, true, true, true, true, false, false, false, false, false, false, false, false, false, false, false, false, false, false, false, false, false, false, false, false, false, false, false, false, false, false, false, false, false, false, false, false, false, false, false, false, false, false, false, false, false, false, false, false, false, false, false, false] rfl rfl (any_of HT_.out (by kernel_rfl)) (fun _ _ _ h => h) (Or.inr ⟨by rfl, rfl⟩) ?_ ?_
                   rotate_left
                   ·simp only [Act.put, List.setIfInBounds_toArray, List.set_cons_zero, List.set_cons_succ, i64_w, i32_w]
                    rfl
                   refine pure_ (i := 6) (N := some 92) (v := undef) (a' := ?_) #[true, true, true, true, true, true, true, false, false, false, false, false, false, false, false, false, false, false, false, false, false, false, false, false, false, false, false, false, false, false, false, false, false, false, false, false, false, false, false, false, false, false, false, false, false, false, false, false, false, false, false, false, false, false] rfl rfl (any_of HT_.out (by kernel_rfl)) (fun _ _ _ h => h) (Or.inr ⟨by rfl, rfl⟩) ?_ ?_
                   rotate_left
                   ·simp only [Act.put, List.setIfInBounds_toArray, List.set_cons_zero, List.set_cons_succ, i64_w, i32_w]
                    rfl
                   refine pure_ (i := 7) (N := some 93) (v := undef) (a' := ?_) #[true, true, true, true, true, true, true, true, false, false, false, false, false, false, false, false, false, false, false, false, false, false, false, false, false, false, false, false, false, false, false, false, false, false, false, false, false, false, false, false, false, false, false, false, false, false, false, false, false, false, false, false, false, false] rfl rfl (any_of HT_.out (by kernel_rfl)) (fun _ _ _ h => h) (Or.inr ⟨by rfl, rfl⟩) ?_ ?_
                   rotate_left
                   ·simp only [Act.put, List.setIfInBounds_toArray, List.set_cons_zero, List.set_cons_succ, i64_w, i32_w]
                    rfl
                   refine pure_ (i := 8) (N := some 94) (v := undef) (a' := ?_) #[true, true, true, true, true, true, true, true, true, false, false, false, false, false, false, false, false, false, false, false, false, false, false, false, false, false, false, false, false, false, false, false, false, false, false, false, false, false, false, false, false, false, false, false, false, false, false, false, false, false, false, false, false, false] rfl rfl (any_of HT_.out (by kernel_rfl)) (fun _ _ _ h => h) (Or.inr ⟨by rfl, rfl⟩) ?_ ?_
                   rotate_left
                   ·simp only [Act.put, List.setIfInBounds_toArray, List.set_cons_zero, List.set_cons_succ, i64_w, i32_w]
                    rfl
                   refine pure_ (i := 9) (N := some 95) (v := undef) (a' := ?_) #[true, true, true, true, true, true, true, true, true, true, false, false, false, false, false, false, false, false, false, false, false, false, false, false, false, false, false, false, false, false, false, false, false, false, false, false, false, false, false, false, false, false, false, false, false, false, false, false, false, false, false, false, false, false] rfl rfl (any_of HT_.out (by kernel_rfl)) (fun _ _ _ h => h) (Or.inr ⟨by rfl, rfl⟩) ?_ ?_
                   rotate_left
                   ·simp only [Act.put, List.setIfInBounds_toArray, List.set_cons_zero, List.set_cons_succ, i64_w, i32_w]
                    rfl
                   refine pure_ (i := 10) (N := some 96) (v := undef) (a' := ?_) #[true, true, true, true, true, true, true, true, true, true, true, false, false, false, false, false, false, false, false, false, false, false, false, false, false, false, false, false, false, false, false, false, false, false, false, false, false, false, false, false, false, false, false, false, false, false, false, false, false, false, false, false, false, false] rfl rfl (any_of HT_.out (by kernel_rfl)) (fun _ _ _ h => h) (Or.inr ⟨by rfl, rfl⟩) ?_ ?_
                   rotate_left
                   ·simp only [Act.put, List.setIfInBounds_toArray, List.set_cons_zero, List.set_cons_succ, i64_w, i32_w]
                    rfl
                   refine pure_ (i := 11) (N := some 97) (v := undef) (a' := ?_) #[true, true, true, true, true, true, true, true, true, true, true, true, false, false, false, false, false, false, false, false, false, false, false, false, false, false, false, false, false, false, false, false, false, false, false, false, false, false, false, false, false, false, false, false, false, false, false, false, false, false, false, false, false, false] rfl rfl (any_of HT_.out (by kernel_rfl)) (fun _ _ _ h => h) (Or.inr ⟨by rfl, rfl⟩) ?_ ?_
                   rotate_left
                   ·simp only [Act.put, List.setIfInBounds_toArray, List.set_cons_zero, List.set_cons_succ, i64_w, i32_w]
                    rfl
                   refine pure_ (i := 12) (N := some 98) (v := undef) (a' := ?_) #[true, true, true, true, true, true, true, true, true, true, true, true, true, false, false, false, false, false, false, false, false, false, false, false, false, false, false, false, false, false, false, false, false, false, false, false, false, false, false, false, false, false, false, false, false, false, false, false, false, false, false, false, false, false] rfl rfl (any_of HT_.out (by kernel_rfl)) (fun _ _ _ h => h) (Or.inr ⟨by rfl, rfl⟩) ?_ ?_
                   rotate_left
                   ·simp only [Act.put, List.setIfInBounds_toArray, List.set_cons_zero, List.set_cons_succ, i64_w, i32_w]
                    rfl
                   refine pure_ (i := 13) (N := some 99) (v := undef) (a' := ?_) #[true, true, true, true, true, true, true, true, true, true, true, true, true, true, false, false, false, false, false, false, false, false, false, false, false, false, false, false, false, false, false, false, false, false, false, false, false, false, false, false, false, false, false, false, false, false, false, false, false, false, false, false, false, false] rfl rfl (any_of HT_.out (by kernel_rfl)) (fun _ _ _ h => h) (Or.inr ⟨by rfl, rfl⟩) ?_ ?_
                   rotate_left
                   ·simp only [Act.put, List.setIfInBounds_toArray, List.set_cons_zero, List.set_cons_succ, i64_w, i32_w]
                    rfl
                   refine pure_ (i := 14) (N := some 100) (v := undef) (a' := ?_) #[true, true, true, true, true, true, true, true, true, true, true, true, true, true, true, false, false, false, false, false, false, false, false, false, false, false, false, false, false, false, false, false, false, false, false, false, false, false, false, false, false, false, false, false, false, false, false, false, false, false, false, false, false, false] rfl rfl (any_of HT_.out (by kernel_rfl)) (fun _ _ _ h => h) (Or.inr ⟨by rfl, rfl⟩) ?_ ?_
                   rotate_left
                   ·simp only [Act.put, List.setIfInBounds_toArray, List.set_cons_zero, List.set_cons_succ, i64_w, i32_w]
                    rfl
                   refine pr 15 101 HT_ ?_
                   refine pr 16 102 HT_ ?_
                   refine pure_ (i := 17) (N := some 103) (v := undef) (a' := ?_) #[true, true, true, true, true, true, true, true, true, true, true, true, true, true, true, true, true, true, false, false, false, false, false, false, false, false, false, false, false, false, false, false, false, false, false, false, false, false, false, false, false, false, false, false, false, false, false, false, false, false, false, false, false, false] rfl rfl (any_of HT_.out (by kernel_rfl)) (fun _ _ _ h => h) (Or.inr ⟨by rfl, rfl⟩) ?_ ?_
                   rotate_left
                   ·simp only [Act.put, List.setIfInBounds_toArray, List.set_cons_zero, List.set_cons_succ, i64_w, i32_w]
                    rfl
                   refine pure_ (i := 18) (N := some 104) (v := undef) (a' := ?_) #[true, true, true, true, true, true, true, true, true, true, true, true, true, true, true, true, true, true, true, false, false, false, false, false, false, false, false, false, false, false, false, false, false, false, false, false, false, false, false, false, false, false, false, false, false, false, false, false, false, false, false, false, false, false] rfl rfl (any_of HT_.out (by kernel_rfl)) (fun _ _ _ h => h) (Or.inr ⟨by rfl, rfl⟩) ?_ ?_
                   rotate_left
                   ·simp only [Act.put, List.setIfInBounds_toArray, List.set_cons_zero, List.set_cons_succ, i64_w, i32_w]
                    rfl
                   refine pure_ (i := 19) (N := some 105) (v := undef) (a' := ?_) #[true, true, true, true, true, true, true, true, true, true, true, true, true, true, true, true, true, true, true, true, false, false, false, false, false, false, false, false, false, false, false, false, false, false, false, false, false, false, false, false, false, false, false, false, false, false, false, false, false, false, false, false, false, false] rfl rfl (any_of HT_.out (by kernel_rfl)) (fun _ _ _ h => h) (Or.inr ⟨by rfl, rfl⟩) ?_ ?_
                   rotate_left
                   ·simp only [Act.put, List.setIfInBounds_toArray, List.set_cons_zero, List.set_cons_succ, i64_w, i32_w]
                    rfl
                   refine pure_ (i := 20) (N := some 106) (v := undef) (a' := ?_) #[true, true, true, true, true, true, true, true, true, true, true, true, true, true, true, true, true, true, true, true, true, false, false, false, false, false, false, false, false, false, false, false, false, false, false, false, false, false, false, false, false, false, false, false, false, false, false, false, false, false, false, false, false, false] rfl rfl (any_of HT_.out (by kernel_rfl)) (fun _ _ _ h => h) (Or.inr ⟨by rfl, rfl⟩) ?_ ?_
                   rotate_left
                   ·simp only [Act.put, List.setIfInBounds_toArray, List.set_cons_zero, List.set_cons_succ, i64_w, i32_w]
                    rfl
                   refine pure_ (i := 21) (N := some 107) (v := undef) (a' := ?_) #[true, true, true, true, true, true, true, true, true, true, true, true, true, true, true, true, true, true, true, true, true, true, false, false, false, false, false, false, false, false, false, false, false, false, false, false, false, false, false, false, false, false, false, false, false, false, false, false, false, false, false, false, false, false] rfl rfl (any_of HT_.out (by kernel_rfl)) (fun _ _ _ h => h) (Or.inr ⟨by rfl, rfl⟩) ?_ ?_
                   rotate_left
                   ·simp only [Act.put, List.setIfInBounds_toArray, List.set_cons_zero, List.set_cons_succ, i64_w, i32_w]
                    rfl
                   refine pure_ (i := 22) (N := some 108) (v := undef) (a' := ?_) #[true, true, true, true, true, true, true, true, true, true, true, true, true, true, true, true, true, true, true, true, true, true, true, false, false, false, false, false, false, false, false, false, false, false, false, false, false, false, false, false, false, false, false, false, false, false, false, false, false, false, false, false, false, false] rfl rfl (any_of HT_.out (by kernel_rfl)) (fun _ _ _ h => h) (Or.inr ⟨by rfl, rfl⟩) ?_ ?_
                   rotate_left
                   ·simp only [Act.put, List.setIfInBounds_toArray, List.set_cons_zero, List.set_cons_succ, i64_w, i32_w]
                    rfl
                   refine pure_ (i := 23) (N := some 109) (v := undef) (a' := ?_) #[true, true, true, true, true, true, true, true, true, true, true, true, true, true, true, true, true, true, true, true, true, true, true, true, false, false, false, false, false, false, false, false, false, false, false, false, false, false, false, false, false, false, false, false, false, false, false, false, false, false, false, false, false, false] rfl rfl (any_of HT_.out (by kernel_rfl)) (fun _ _ _ h => h) (Or.inr ⟨by rfl, rfl⟩) ?_ ?_
                   rotate_left
                   ·simp only [Act.put, List.setIfInBounds_toArray, List.set_cons_zero, List.set_cons_succ, i64_w, i32_w]
                    rfl
                   refine pure_ (i := 24) (N := some 110) (v := undef) (a' := ?_) #[true, true, true, true, true, true, true, true, true, true, true, true, true, true, true, true, true, true, true, true, true, true, true, true, true, false, false, false, false, false, false, false, false, false, false, false, false, false, false, false, false, false, false, false, false, false, false, false, false, false, false, false, false, false] rfl rfl (any_of HT_.out (by kernel_rfl)) (fun _ _ _ h => h) (Or.inr ⟨by rfl, rfl⟩) ?_ ?_
                   rotate_left
                   ·simp only [Act.put, List.setIfInBounds_toArray, List.set_cons_zero, List.set_cons_succ, i64_w, i32_w]
                    rfl
                   refine pure_ (i := 25) (N := some 111) (v := undef) (a' := ?_) #[true, true, true, true, true, true, true, true, true, true, true, true, true, true, true, true, true, true, true, true, true, true, true, true, true, true, false, false, false, false, false, false, false, false, false, false, false, false, false, false, false, false, false, false, false, false, false, false, false, false, false, false, false, false] rfl rfl (any_of HT_.out (by kernel_rfl)) (fun _ _ _ h => h) (Or.inr ⟨by rfl, rfl⟩) ?_ ?_
                   rotate_left
                   ·simp only [Act.put, List.setIfInBounds_toArray, List.set_cons_zero, List.set_cons_succ, i64_w, i32_w]
                    rfl
                   refine pure_ (i := 26) (N := some 112) (v := undef) (a' := ?_) #[true, true, true, true, true, true, true, true, true, true, true, true, true, true, true, true, true, true, true, true, true, true, true, true, true, true, true, false, false, false, false, false, false, false, false, false, false, false, false, false, false, false, false, false, false, false, false, false, false, false, false, false, false, false] rfl rfl (any_of HT_.out (by kernel_rfl)) (fun _ _ _ h => h) (Or.inr ⟨by rfl, rfl⟩) ?_ ?_
                   rotate_left
                   ·simp only [Act.put, List.setIfInBounds_toArray, List.set_cons_zero, List.set_cons_succ, i64_w, i32_w]
                    rfl
                   refine pure_ (i := 27) (N := some 113) (v := undef) (a' := ?_) #[true, true, true, true, true, true, true, true, true, true, true, true, true, true, true, true, true, true, true, true, true, true, true, true, true, true, true, true, false, false, false, false, false, false, false, false, false, false, false, false, false, false, false, false, false, false, false, false, false, false, false, false, false, false] rfl rfl (any_of HT_.out (by kernel_rfl)) (fun _ _ _ h => h) (Or.inr ⟨by rfl, rfl⟩) ?_ ?_
                   rotate_left
                   ·simp only [Act.put, List.setIfInBounds_toArray, List.set_cons_zero, List.set_cons_succ, i64_w, i32_w]
                    rfl
                   refine pr 28 114 HT_ ?_
                   refine pr 29 115 HT_ ?_
                   refine pure_ (i := 30) (N := some 116) (v := undef) (a' := ?_) #[true, true, true, true, true, true, true, true, true, true, true, true, true, true, true, true, true, true, true, true, true, true, true, true, true, true, true, true, true, true, true, false, false, false, false, false, false, false, false, false, false, false, false, false, false, false, false, false, false, false, false, false, false, false] rfl rfl (any_of HT_.out (by kernel_rfl)) (fun _ _ _ h => h) (Or.inr ⟨by rfl, rfl⟩) ?_ ?_
                   rotate_left
                   ·simp only [Act.put, List.setIfInBounds_toArray, List.set_cons_zero, List.set_cons_succ, i64_w, i32_w]
                    rfl
                   refine pure_ (i := 31) (N := some 117) (v := undef) (a' := ?_) #[true, true, true, true, true, true, true, true, true, true, true, true, true, true, true, true, true, true, true, true, true, true, true, true, true, true, true, true, true, true, true, true, false, false, false, false, false, false, false, false, false, false, false, false, false, false, false, false, false, false, false, false, false, false] rfl rfl (any_of HT_.out (by kernel_rfl)) (fun _ _ _ h => h) (Or.inr ⟨by rfl, rfl⟩) ?_ ?_
                   rotate_left
                   ·simp only [Act.put, List.setIfInBounds_toArray, List.set_cons_zero, List.set_cons_succ, i64_w, i32_w]
                    rfl
                   refine pure_ (i := 32) (N := some 118) (v := undef) (a' := ?_) #[true, true, true, true, true, true, true, true, true, true, true, true, true, true, true, true, true, true, true, true, true, true, true, true, true, true, true, true, true, true, true, true, true, false, false, false, false, false, false, false, false, false, false, false, false, false, false, false, false, false, false, false, false, false] rfl rfl (any_of HT_.out (by kernel_rfl)) (fun _ _ _ h => h) (Or.inr ⟨by rfl, rfl⟩) ?_ ?_
                   rotate_left
                   ·simp only [Act.put, List.setIfInBounds_toArray, List.set_cons_zero, List.set_cons_succ, i64_w, i32_w]
                    rfl
                   refine pure_ (i := 33) (N := some 119) (v := undef) (a' := ?_) #[true, true, true, true, true, true, true, true, true, true, true, true, true, true, true, true, true, true, true, true, true, true, true, true, true, true, true, true, true, true, true, true, true, true, false, false, false, false, false, false, false, false, false, false, false, false, false, false, false, false, false, false, false, false] rfl rfl (any_of HT_.out (by kernel_rfl)) (fun _ _ _ h => h) (Or.inr ⟨by rfl, rfl⟩) ?_ ?_
                   rotate_left
                   ·simp only [Act.put, List.setIfInBounds_toArray, List.set_cons_zero, List.set_cons_succ, i64_w, i32_w]
                    rfl
                   refine pure_ (i := 34) (N := some 120) (v := undef) (a' := ?_) #[true, true, true, true, true, true, true, true, true, true, true, true, true, true, true, true, true, true, true, true, true, true, true, true, true, true, true, true, true, true, true, true, true, true, true, false, false, false, false, false, false, false, false, false, false, false, false, false, false, false, false, false, false, false] rfl rfl (any_of HT_.out (by kernel_rfl)) (fun _ _ _ h => h) (Or.inr ⟨by rfl, rfl⟩) ?_ ?_
                   rotate_left
                   ·simp only [Act.put, List.setIfInBounds_toArray, List.set_cons_zero, List.set_cons_succ, i64_w, i32_w]
                    rfl
                   refine pure_ (i := 35) (N := some 121) (v := undef) (a' := ?_) #[true, true, true, true, true, true, true, true, true, true, true, true, true, true, true, true, true, true, true, true, true, true, true, true, true, true, true, true, true, true, true, true, true, true, true, true, false, false, false, false, false, false, false, false, false, false, false, false, false, false, false, false, false, false] rfl rfl (any_of HT_.out (by kernel_rfl)) (fun _ _ _ h => h) (Or.inr ⟨by rfl, rfl⟩) ?_ ?_
                   rotate_left
                   ·simp only [Act.put, List.setIfInBounds_toArray, List.set_cons_zero, List.set_cons_succ, i64_w, i32_w]
                    rfl
                   refine pure_ (i := 36) (N := some 122) (v := undef) (a' := ?_) #[true, true, true, true, true, true, true, true, true, true, true, true, true, true, true, true, true, true, true, true, true, true, true, true, true, true, true, true, true, true, true, true, true, true, true, true, true, false, false, false, false, false, false, false, false, false, false, false, false, false, false, false, false, false] rfl rfl (any_of HT_.out (by kernel_rfl)) (fun _ _ _ h => h) (Or.inr ⟨by rfl, rfl⟩) ?_ ?_
                   rotate_left
                   ·simp only [Act.put, List.setIfInBounds_toArray, List.set_cons_zero, List.set_cons_succ, i64_w, i32_w]
                    rfl
                   refine pure_ (i := 37) (N := some 123) (v := undef) (a' := ?_) #[true, true, true, true, true, true, true, true, true, true, true, true, true, true, true, true, true, true, true, true, true, true, true, true, true, true, true, true, true, true, true, true, true, true, true, true, true, true, false, false, false, false, false, false, false, false, false, false, false, false, false, false, false, false] rfl rfl (any_of HT_.out (by kernel_rfl)) (fun _ _ _ h => h) (Or.inr ⟨by rfl, rfl⟩) ?_ ?_
                   rotate_left
                   ·simp only [Act.put, List.setIfInBounds_toArray, List.set_cons_zero, List.set_cons_succ, i64_w, i32_w]
                    rfl
                   refine pure_ (i := 38) (N := some 124) (v := undef) (a' := ?_) #[true, true, true, true, true, true, true, true, true, true, true, true, true, true, true, true, true, true, true, true, true, true, true, true, true, true, true, true, true, true, true, true, true, true, true, true, true, true, true, false, false, false, false, false, false, false, false, false, false, false, false, false, false, false] rfl rfl (any_of HT_.out (by kernel_rfl)) (fun _ _ _ h => h) (Or.inr ⟨by rfl, rfl⟩) ?_ ?_
                   rotate_left
                   ·simp only [Act.put, List.setIfInBounds_toArray, List.set_cons_zero, List.set_cons_succ, i64_w, i32_w]
                    rfl
                   refine pure_ (i := 39) (N := some 125) (v := undef) (a' := ?_) #[true, true, true, true, true, true, true, true, true, true, true, true, true, true, true, true, true, true, true, true, true, true, true, true, true, true, true, true, true, true, true, true, true, true, true, true, true, true, true, true, false, false, false, false, false, false, false, false, false, false, false, false, false, false] rfl rfl (any_of HT_.out (by kernel_rfl)) (fun _ _ _ h => h) (Or.inr ⟨by rfl, rfl⟩) ?_ ?_
                   rotate_left
                   ·simp only [Act.put, List.setIfInBounds_toArray, List.set_cons_zero, List.set_cons_succ, i64_w, i32_w]
                    rfl
                   refine pure_ (i := 40) (N := some 126) (v := undef) (a' := ?_) #[true, true, true, true, true, true, true, true, true, true, true, true, true, true, true, true, true, true, true, true, true, true, true, true, true, true, true, true, true, true, true, true, true, true, true, true, true, true, true, true, true, false, false, false, false, false, false, false, false, false, false, false, false, false] rfl rfl (any_of HT_.out (by kernel_rfl)) (fun _ _ _ h => h) (Or.inr ⟨by rfl, rfl⟩) ?_ ?_
                   rotate_left
                   ·simp only [Act.put, List.setIfInBounds_toArray, List.set_cons_zero, List.set_cons_succ, i64_w, i32_w]
                    rfl
                   refine pure_ (i := 41) (N := some 127) (v := undef) (a' := ?_) #[true, true, true, true, true, true, true, true, true, true, true, true, true, true, true, true, true, true, true, true, true, true, true, true, true, true, true, true, true, true, true, true, true, true, true, true, true, true, true, true, true, true, false, false, false, false, false, false, false, false, false, false, false, false] rfl rfl (any_of HT_.out (by kernel_rfl)) (fun _ _ _ h => h) (Or.inr ⟨by rfl, rfl⟩) ?_ ?_
                   rotate_left
                   ·simp only [Act.put, List.setIfInBounds_toArray, List.set_cons_zero, List.set_cons_succ, i64_w, i32_w]
                    rfl
                   refine pure_ (i := 42) (N := some 128) (v := undef) (a' := ?_) #[true, true, true, true, true, true, true, true, true, true, true, true, true, true, true, true, true, true, true, true, true, true, true, true, true, true, true, true, true, true, true, true, true, true, true, true, true, true, true, true, true, true, true, false, false, false, false, false, false, false, false, false, false, false] rfl rfl (any_of HT_.out (by kernel_rfl)) (fun _ _ _ h => h) (Or.inr ⟨by rfl, rfl⟩) ?_ ?_
                   rotate_left
                   ·simp only [Act.put, List.setIfInBounds_toArray, List.set_cons_zero, List.set_cons_succ, i64_w, i32_w]
                    rfl
                   refine pure_ (i := 43) (N := some 129) (v := undef) (a' := ?_) #[true, true, true, true, true, true, true, true, true, true, true, true, true, true, true, true, true, true, true, true, true, true, true, true, true, true, true, true, true, true, true, true, true, true, true, true, true, true, true, true, true, true, true, true, false, false, false, false, false, false, false, false, false, false] rfl rfl (any_of HT_.out (by kernel_rfl)) (fun _ _ _ h => h) (Or.inr ⟨by rfl, rfl⟩) ?_ ?_
                   rotate_left
                   ·simp only [Act.put, List.setIfInBounds_toArray, List.set_cons_zero, List.set_cons_succ, i64_w, i32_w]
                    rfl
                   refine pure_ (i := 44) (N := some 130) (v := undef) (a' := ?_) #[true, true, true, true, true, true, true, true, true, true, true, true, true, true, true, true, true, true, true, true, true, true, true, true, true, true, true, true, true, true, true, true, true, true, true, true, true, true, true, true, true, true, true, true, true, false, false, false, false, false, false, false, false, false] rfl rfl (any_of HT_.out (by kernel_rfl)) (fun _ _ _ h => h) (Or.inr ⟨by rfl, rfl⟩) ?_ ?_
                   rotate_left
                   ·simp only [Act.put, List.setIfInBounds_toArray, List.set_cons_zero, List.set_cons_succ, i64_w, i32_w]
                    rfl
                   refine pure_ (i := 45) (N := some 131) (v := undef) (a' := ?_) #[true, true, true, true, true, true, true, true, true, true, true, true, true, true, true, true, true, true, true, true, true, true, true, true, true, true, true, true, true, true, true, true, true, true, true, true, true, true, true, true, true, true, true, true, true, true, false, false, false, false, false, false, false, false] rfl rfl (any_of HT_.out (by kernel_rfl)) (fun _ _ _ h => h) (Or.inr ⟨by rfl, rfl⟩) ?_ ?_
                   rotate_left
                   ·simp only [Act.put, List.setIfInBounds_toArray, List.set_cons_zero, List.set_cons_succ, i64_w, i32_w]
                    rfl
                   refine pure_ (i := 46) (N := some 132) (v := undef) (a' := ?_) #[true, true, true, true, true, true, true, true, true, true, true, true, true, true, true, true, true, true, true, true, true, true, true, true, true, true, true, true, true, true, true, true, true, true, true, true, true, true, true, true, true, true, true, true, true, true, true, false, false, false, false, false, false, false] rfl rfl (any_of HT_.out (by kernel_rfl)) (fun _ _ _ h => h) (Or.inr ⟨by rfl, rfl⟩) ?_ ?_
                   rotate_left
                   ·simp only [Act.put, List.setIfInBounds_toArray, List.set_cons_zero, List.set_cons_succ, i64_w, i32_w]
                    rfl
                   refine pure_ (i := 47) (N := some 133) (v := undef) (a' := ?_) #[true, true, true, true, true, true, true, true, true, true, true, true, true, true, true, true, true, true, true, true, true, true, true, true, true, true, true, true, true, true, true, true, true, true, true, true, true, true, true, true, true, true, true, true, true, true, true, true, false, false, false, false, false, false] rfl rfl (any_of HT_.out (by kernel_rfl)) (fun _ _ _ h => h) (Or.inr ⟨by rfl, rfl⟩) ?_ ?_
                   rotate_left
                   ·simp only [Act.put, List.setIfInBounds_toArray, List.set_cons_zero, List.set_cons_succ, i64_w, i32_w]
                    rfl
                   refine pure_ (i := 48) (N := some 134) (v := undef) (a' := ?_) #[true, true, true, true, true, true, true, true, true, true, true, true, true, true, true, true, true, true, true, true, true, true, true, true, true, true, true, true, true, true, true, true, true, true, true, true, true, true, true, true, true, true, true, true, true, true, true, true, true, false, false, false, false, false] rfl rfl (any_of HT_.out (by kernel_rfl)) (fun _ _ _ h => h) (Or.inr ⟨by rfl, rfl⟩) ?_ ?_
                   rotate_left
                   ·simp only [Act.put, List.setIfInBounds_toArray, List.set_cons_zero, List.set_cons_succ, i64_w, i32_w]
                    rfl
                   refine pure_ (i := 49) (N := some 135) (v := undef) (a' := ?_) #[true, true, true, true, true, true, true, true, true, true, true, true, true, true, true, true, true, true, true, true, true, true, true, true, true, true, true, true, true, true, true, true, true, true, true, true, true, true, true, true, true, true, true, true, true, true, true, true, true, true, false, false, false, false] rfl rfl (any_of HT_.out (by kernel_rfl)) (fun _ _ _ h => h) (Or.inr ⟨by rfl, rfl⟩) ?_ ?_
                   rotate_left
                   ·simp only [Act.put, List.setIfInBounds_toArray, List.set_cons_zero, List.set_cons_succ, i64_w, i32_w]
                    rfl
                   refine pure_ (i := 50) (N := some 136) (v := undef) (a' := ?_) #[true, true, true, true, true, true, true, true, true, true, true, true, true, true, true, true, true, true, true, true, true, true, true, true, true, true, true, true, true, true, true, true, true, true, true, true, true, true, true, true, true, true, true, true, true, true, true, true, true, true, true, false, false, false] rfl rfl (any_of HT_.out (by kernel_rfl)) (fun _ _ _ h => h) (Or.inr ⟨by rfl, rfl⟩) ?_ ?_
                   rotate_left
                   ·simp only [Act.put, List.setIfInBounds_toArray, List.set_cons_zero, List.set_cons_succ, i64_w, i32_w]
                    rfl
                   refine pure_ (i := 51) (N := some 137) (v := undef) (a' := ?_) #[true, true, true, true, true, true, true, true, true, true, true, true, true, true, true, true, true, true, true, true, true, true, true, true, true, true, true, true, true, true, true, true, true, true, true, true, true, true, true, true, true, true, true, true, true, true, true, true, true, true, true, true, false, false] rfl rfl (any_of HT_.out (by kernel_rfl)) (fun _ _ _ h => h) (Or.inr ⟨by rfl, rfl⟩) ?_ ?_
                   rotate_left
                   ·simp only [Act.put, List.setIfInBounds_toArray, List.set_cons_zero, List.set_cons_succ, i64_w, i32_w]
                    rfl
                   refine pure_ (i := 52) (N := some 138) (v := undef) (a' := ?_) #[true, true, true, true, true, true, true, true, true, true, true, true, true, true, true, true, true, true, true, true, true, true, true, true, true, true, true, true, true, true, true, true, true, true, true, true, true, true, true, true, true, true, true, true, true, true, true, true, true, true, true, true, true, false] rfl rfl (any_of HT_.out (by kernel_rfl)) (fun _ _ _ h => h) (Or.inr ⟨by rfl, rfl⟩) ?_ ?_
                   rotate_left
                   ·simp only [Act.put, List.setIfInBounds_toArray, List.set_cons_zero, List.set_cons_succ, i64_w, i32_w]
                    rfl
                   refine pr 53 139 HT_ ?_
                   refine dn HT_ ?_
                   try go_wp2
                   go_roundg k4
                   case measure => have := HJ3.out; have := HK2.out; have := HK3.out; have := HK4.out; omega
                   case rel => exact ⟨(wrap64 (x14_4 + 1)), (by first | rfl | (simp; done) | (simp [*]; done)), H', ⟨by have := HJ3.out; have := HK2.out; have := HK3.out; have := HK4.out; omega⟩, ⟨rl HO_7⟩, ⟨rl HO_8⟩, ⟨rl HO_9⟩, ⟨bl HB⟩⟩
                  ·rw [if_neg c49] at H
                   have c49b0 : (x14_4 == x10_2) = false := beq_eq_false_iff_ne.mpr c49
                   have c49b1 : (x14_4 != x10_2) = true := bne_iff_ne.mpr c49
                   by_cases c51 : 0 ≤ x14_4
                   ·rw [if_pos c51] at H
                    have c51b0 : decide (0 ≤ x14_4) = true := decide_eq_true c51
                    clear c51
                    by_cases c52 : 0 ≤ x10_2
                    ·rw [if_pos c52] at H
                     have c52b0 : decide (0 ≤ x10_2) = true := decide_eq_true c52
                     clear c52
                     by_cases c53 : x10_2 < (t254.length : Int)
                     ·rw [if_pos c53] at H
                      have c53b0 : decide (x10_2 < (t254.length : Int)) = true := decide_eq_true c53
                      clear c53
                      by_cases c54 : ((rd_T88 t254 x14_4).f0) = ((rd_T88 t254 x10_2).f0)
                      ·rw [if_pos c54] at H
                       have c54b0 : (((rd_T88 t254 x14_4).f0) == ((rd_T88 t254 x10_2).f0)) = true := beq_iff_eq.mpr c54
                       have c54b1 : (((rd_T88 t254 x14_4).f0) != ((rd_T88 t254 x10_2).f0)) = false := bne_eq_false_iff_eq.mpr c54
                       clear c54
                       by_cases c55 : (((rd_T88 t254 x14_4).f3) == ((rd_T88 t254 x10_2).f3)) = true
                       ·rw [if_pos c55] at H
                        have c55b0 : (((rd_T88 t254 x14_4).f3) == ((rd_T88 t254 x10_2).f3)) = true := c55
                        (try (have c55b1 : decide (((rd_T88 t254 x14_4).f3) = ((rd_T88 t254 x10_2).f3)) = true := by simpa using c55))
                        (try (have c55b2 : (((rd_T88 t254 x14_4).f3) == ((rd_T88 t254 x10_2).f3)) = true := by simpa using c55))
                        clear c55
                        by_cases c56 : 0 ≤ ((rd_T88 t254 x14_4).f1)
                        ·rw [if_pos c56] at H
                         have c56b0 : decide (0 ≤ ((rd_T88 t254 x14_4).f1)) = true := decide_eq_true c56
                         clear c56
                         by_cases c57 : ((rd_T88 t254 x14_4).f1) < (t251.length : Int)
                         ·rw [if_pos c57] at H
                          have c57b0 : decide (((rd_T88 t254 x14_4).f1) < (t251.length : Int)) = true := decide_eq_true c57
                          clear c57
                          replace H := Option.bind_eq_some_iff.mp H
                          obtain ⟨t273, A580, H⟩ := H
                          replace H : (if 0 ≤ ((rd_T88 t254 x14_4).f2) then (if ((rd_T88 t254 x14_4).f2) < (t251.length : Int) then ((gampref01_between.f (rd t251 ((rd_T88 t254 x14_4).f2)) (rd t251 ((rd_T88 t254 x10_2).f1)) (rd t251 ((rd_T88 t254 x10_2).f2))).bind fun t276 => (if (t273 != t276) = true then (some false) else (gampref01_Folds.l2 k4 l0 t248 t251 t254 x10_2 (rd t251 ((rd_T88 t254 x10_2).f1)) (rd t251 ((rd_T88 t254 x10_2).f2)) (wrap64 (x14_4 + 1))))) else (none)) else (none)) = some r := H
                          have A58 := Aside0.mk A580
                          clear A580
                          by_cases c59 : 0 ≤ ((rd_T88 t254 x14_4).f2)
                          ·rw [if_pos c59] at H
                           have c59b0 : decide (0 ≤ ((rd_T88 t254 x14_4).f2)) = true := decide_eq_true c59
                           clear c59
                           by_cases c60 : ((rd_T88 t254 x14_4).f2) < (t251.length : Int)
                           ·rw [if_pos c60] at H
                            have c60b0 : decide (((rd_T88 t254 x14_4).f2) < (t251.length : Int)) = true := decide_eq_true c60
                            clear c60
                            replace H := Option.bind_eq_some_iff.mp H
                            obtain ⟨t276, A610, H⟩ := H
                            replace H : (if (t273 != t276) = true then (some false) else (gampref01_Folds.l2 k4 l0 t248 t251 t254 x10_2 (rd t251 ((rd_T88 t254 x10_2).f1)) (rd t251 ((rd_T88 t254 x10_2).f2)) (wrap64 (x14_4 + 1)))) = some r := H
                            have A61 := Aside0.mk A610
                            clear A610
                            by_cases c62 : (t273 != t276) = true
                            ·rw [if_pos c62] at H
                             have c62b0 : (t273 != t276) = true := c62
                             (try (have c62b1 : decide (t273 = t276) = false := by simpa using c62))
                             (try (have c62b2 : (t273 == t276) = false := by simpa using c62))
                             (try (have c62b3 : ¬ (t273 = t276) := by simpa using c62))
                             clear c62
                             obtain rfl := Option.some.inj H
                             try go_wp2
                             have n0_ := Aside0.mk (Kd.R_drew HO_7.out)
                             have n1_ := Aside0.mk (Kd.R_drew HO_8.out)
                             have n2_ := Aside0.mk (Kd.R_drew HO_9.out)
                             have n3_ := Aside0.mk (below_drew1 HB.out)
                             clear HO_7
                             clear HO_8
                             clear HO_9
                             clear HB
                             have HO_7 := n0_
                             have HO_8 := n1_
                             have HO_9 := n2_
                             have HB := n3_
                             clear n0_ n1_ n2_ n3_
                             have p267 : 0 ≤ (x14_4 : Int) := ofd
                             have q267 : x14_4 < (t254.length : Int) := ofd
                             obtain ⟨ad267, e267, hx267_0, hx267_1, hx267_2, hx267_3⟩ := at_T88 (Kd.R_reads' HO_9.out).2.2 x14_4 p267 q267
                             obtain rfl : ad257 = ad267 := (by injection e267)
                             replace p267 := eq_true p267
                             replace q267 := eq_true q267
                             have p268 : 0 ≤ (x10_2 : Int) := ofd
                             have q268 : x10_2 < (t254.length : Int) := ofd
                             obtain ⟨ad268, e268, hx268_0, hx268_1, hx268_2, hx268_3⟩ := at_T88 (Kd.R_reads' HO_9.out).2.2 x10_2 p268 q268
                             obtain rfl : ad257 = ad268 := (by injection e268)
                             replace p268 := eq_true p268
                             replace q268 := eq_true q268
                             have p269 : 0 ≤ (x14_4 : Int) := ofd
                             have q269 : x14_4 < (t254.length : Int) := ofd
                             obtain ⟨ad269, e269, hx269_0, hx269_1, hx269_2, hx269_3⟩ := at_T88 (Kd.R_reads' HO_9.out).2.2 x14_4 p269 q269
                             obtain rfl : ad257 = ad269 := (by injection e269)
                             replace p269 := eq_true p269
                             replace q269 := eq_true q269
                             have p270 : 0 ≤ (x10_2 : Int) := ofd
                             have q270 : x10_2 < (t254.length : Int) := ofd
                             obtain ⟨ad270, e270, hx270_0, hx270_1, hx270_2, hx270_3⟩ := at_T88 (Kd.R_reads' HO_9.out).2.2 x10_2 p270 q270
                             obtain rfl : ad257 = ad270 := (by injection e270)
                             replace p270 := eq_true p270
                             replace q270 := eq_true q270
                             have p271 : 0 ≤ (x14_4 : Int) := ofd
                             have q271 : x14_4 < (t254.length : Int) := ofd
                             obtain ⟨ad271, e271, hx271_0, hx271_1, hx271_2, hx271_3⟩ := at_T88 (Kd.R_reads' HO_9.out).2.2 x14_4 p271 q271
                             obtain rfl : ad257 = ad271 := (by injection e271)
                             replace p271 := eq_true p271
                             replace q271 := eq_true q271
                             have p272 : 0 ≤ (((rd_T88 t254 x14_4).f1) : Int) := ofd
                             have q272 : ((rd_T88 t254 x14_4).f1) < (t251.length : Int) := ofd
                             obtain ⟨ad272, e272, hx272_0⟩ := Kd.at_int (Kd.R_reads' HO_8.out).2.2 ((rd_T88 t254 x14_4).f1) p272 q272
                             obtain rfl : ad258 = ad272 := (by injection e272)
                             replace p272 := eq_true p272
                             replace q272 := eq_true q272
                             have p274 : 0 ≤ (x14_4 : Int) := ofd
                             have q274 : x14_4 < (t254.length : Int) := ofd
                             obtain ⟨ad274, e274, hx274_0, hx274_1, hx274_2, hx274_3⟩ := at_T88 (Kd.R_reads' HO_9.out).2.2 x14_4 p274 q274
                             obtain rfl : ad257 = ad274 := (by injection e274)
                             replace p274 := eq_true p274
                             replace q274 := eq_true q274
                             have p275 : 0 ≤ (((rd_T88 t254 x14_4).f2) : Int) := ofd
                             have q275 : ((rd_T88 t254 x14_4).f2) < (t251.length : Int) := ofd
                             obtain ⟨ad275, e275, hx275_0⟩ := Kd.at_int (Kd.R_reads' HO_8.out).2.2 ((rd_T88 t254 x14_4).f2) p275 q275
                             obtain rfl : ad258 = ad275 := (by injection e275)
                             replace p275 := eq_true p275
                             replace q275 := eq_true q275
                             refine start_ (n := 54) (S := fun w' => w'.cell? (ad257.add ((x14_4).toNat * 4)) = some (.int .i64 ((rd_T88 t254 x14_4).f0)) ∧ w'.cell? ⟨(ad257.add ((x14_4).toNat * 4)).block, (ad257.add ((x14_4).toNat * 4)).off + 1, none⟩ = some (.int .i64 ((rd_T88 t254 x14_4).f1)) ∧ w'.cell? ⟨(ad257.add ((x14_4).toNat * 4)).block, (ad257.add ((x14_4).toNat * 4)).off + 2, none⟩ = some (.int .i64 ((rd_T88 t254 x14_4).f2)) ∧ w'.cell? ⟨(ad257.add ((x14_4).toNat * 4)).block, (ad257.add ((x14_4).toNat * 4)).off + 3, none⟩ = some (.bool ((rd_T88 t254 x14_4).f3)) ∧ w'.cell? (ad257.add ((x10_2).toNat * 4)) = some (.int .i64 ((rd_T88 t254 x10_2).f0)) ∧ w'.cell? ⟨(ad257.add ((x10_2).toNat * 4)).block, (ad257.add ((x10_2).toNat * 4)).off + 1, none⟩ = some (.int .i64 ((rd_T88 t254 x10_2).f1)) ∧ w'.cell? ⟨(ad257.add ((x10_2).toNat * 4)).block, (ad257.add ((x10_2).toNat * 4)).off + 2, none⟩ = some (.int .i64 ((rd_T88 t254 x10_2).f2)) ∧ w'.cell? ⟨(ad257.add ((x10_2).toNat * 4)).block, (ad257.add ((x10_2).toNat * 4)).off + 3, none⟩ = some (.bool ((rd_T88 t254 x10_2).f3)) ∧ w'.cell? (ad257.add ((x14_4).toNat * 4)) = some (.int .i64 ((rd_T88 t254 x14_4).f0)) ∧ w'.cell? ⟨(ad257.add ((x14_4).toNat * 4)).block, (ad257.add ((x14_4).toNat * 4)).off + 1, none⟩ = some (.int .i64 ((rd_T88 t254 x14_4).f1)) ∧ w'.cell? ⟨(ad257.add ((x14_4).toNat * 4)).block, (ad257.add ((x14_4).toNat * 4)).off + 2, none⟩ = some (.int .i64 ((rd_T88 t254 x14_4).f2)) ∧ w'.cell? ⟨(ad257.add ((x14_4).toNat * 4)).block, (ad257.add ((x14_4).toNat * 4)).off + 3, none⟩ = some (.bool ((rd_T88 t254 x14_4).f3)) ∧ w'.cell? (ad257.add ((x10_2).toNat * 4)) = some (.int .i64 ((rd_T88 t254 x10_2).f0)) ∧ w'.cell? ⟨(ad257.add ((x10_2).toNat * 4)).block, (ad257.add ((x10_2).toNat * 4)).off + 1, none⟩ = some (.int .i64 ((rd_T88 t254 x10_2).f1)) ∧ w'.cell? ⟨(ad257.add ((x10_2).toNat * 4)).block, (ad257.add ((x10_2).toNat * 4)).off + 2, none⟩ = some (.int .i64 ((rd_T88 t254 x10_2).f2)) ∧ w'.cell? ⟨(ad257.add ((x10_2).toNat * 4)).block, (ad257.add ((x10_2).toNat * 4)).off + 3, none⟩ = some (.bool ((rd_T88 t254 x10_2).f3)) ∧ w'.cell? (ad257.add ((x14_4).toNat * 4)) = some (.int .i64 ((rd_T88 t254 x14_4).f0)) ∧ w'.cell? ⟨(ad257.add ((x14_4).toNat * 4)).block, (ad257.add ((x14_4).toNat * 4)).off + 1, none⟩ = some (.int .i64 ((rd_T88 t254 x14_4).f1)) ∧ w'.cell? ⟨(ad257.add ((x14_4).toNat * 4)).block, (ad257.add ((x14_4).toNat * 4)).off + 2, none⟩ = some (.int .i64 ((rd_T88 t254 x14_4).f2)) ∧ w'.cell? ⟨(ad257.add ((x14_4).toNat * 4)).block, (ad257.add ((x14_4).toNat * 4)).off + 3, none⟩ = some (.bool ((rd_T88 t254 x14_4).f3)) ∧ w'.cell? (ad258.add (((rd_T88 t254 x14_4).f1)).toNat) = some (.int .i64 (rd t251 ((rd_T88 t254 x14_4).f1))) ∧ w'.cell? (ad257.add ((x14_4).toNat * 4)) = some (.int .i64 ((rd_T88 t254 x14_4).f0)) ∧ w'.cell? ⟨(ad257.add ((x14_4).toNat * 4)).block, (ad257.add ((x14_4).toNat * 4)).off + 1, none⟩ = some (.int .i64 ((rd_T88 t254 x14_4).f1)) ∧ w'.cell? ⟨(ad257.add ((x14_4).toNat * 4)).block, (ad257.add ((x14_4).toNat * 4)).off + 2, none⟩ = some (.int .i64 ((rd_T88 t254 x14_4).f2)) ∧ w'.cell? ⟨(ad257.add ((x14_4).toNat * 4)).block, (ad257.add ((x14_4).toNat * 4)).off + 3, none⟩ = some (.bool ((rd_T88 t254 x14_4).f3)) ∧ w'.cell? (ad258.add (((rd_T88 t254 x14_4).f2)).toNat) = some (.int .i64 (rd t251 ((rd_T88 t254 x14_4).f2)))) (ds := []) #[false, false, false, false, false, false, false, false, false, false, false, false, false, false, false, false, false, false, false, false, false, false, false, false, false, false, false, false, false, false, false, false, false, false, false, false, false, false, false, false, false, false, false, false, false, false, false, false, false, false, false, false, false, false] (by kernel_rfl) rfl rfl ⟨hx267_0, hx267_1, hx267_2, hx267_3, hx268_0, hx268_1, hx268_2, hx268_3, hx269_0, hx269_1, hx269_2, hx269_3, hx270_0, hx270_1, hx270_2, hx270_3, hx271_0, hx271_1, hx271_2, hx271_3, hx272_0, hx274_0, hx274_1, hx274_2, hx274_3, hx275_0⟩ (fun hHeld => ?_); refine with_tabW gampref01_Folds.tab16 gampref01_Folds.bits16 (fun HT_ HW_ => ?_)
                             generalize wr.drew = w63 at HO_7 HO_8 HO_9 HB hx267_0 hx267_1 hx267_2 hx267_3 hx268_0 hx268_1 hx268_2 hx268_3 hx269_0 hx269_1 hx269_2 hx269_3 hx270_0 hx270_1 hx270_2 hx270_3 hx271_0 hx271_1 hx271_2 hx271_3 hx272_0 hx274_0 hx274_1 hx274_2 hx274_3 hx275_0 hHeld ⊢
                             refine pr 0 86 HT_ ?_
                             refine pr 1 87 HT_ ?_
                             refine pr 2 88 HT_ ?_
                             refine pr 3 89 HT_ ?_
                             refine pr 4 90 HT_ ?_
                             refine pr 5 91 HT_ ?_
                             refine pr 6 92 HT_ ?_
                             refine pr 7 93 HT_ ?_
                             refine pr 9 95 HT_ ?_
                             refine pr 10 96 HT_ ?_
                             refine pr 11 97 HT_ ?_
                             refine pr 12 98 HT_ ?_
                             refine tr 8 94 HT_ HW_ hHeld ?_
                             refine tr 13 99 HT_ HW_ hHeld ?_
                             refine pr 14 100 HT_ ?_
                             refine pr 15 101 HT_ ?_
                             refine pr 16 102 HT_ ?_
                             refine pr 17 103 HT_ ?_
                             refine pr 18 104 HT_ ?_
                             refine pr 19 105 HT_ ?_
                             refine pr 20 106 HT_ ?_
                             refine pr 22 108 HT_ ?_
                             refine pr 23 109 HT_ ?_
                             refine pr 24 110 HT_ ?_
                             refine pr 25 111 HT_ ?_
                             refine tr 21 107 HT_ HW_ hHeld ?_
                             refine tr 26 112 HT_ HW_ hHeld ?_
                             refine pr 27 113 HT_ ?_
                             refine pr 28 114 HT_ ?_
                             refine pr 29 115 HT_ ?_
                             refine pr 30 116 HT_ ?_
                             refine pr 31 117 HT_ ?_
                             refine pr 32 118 HT_ ?_
                             refine pr 33 119 HT_ ?_
                             refine pr 34 120 HT_ ?_
                             refine pr 38 124 HT_ ?_
                             refine pr 39 125 HT_ ?_
                             refine pr 41 127 HT_ ?_
                             refine pr 42 128 HT_ ?_
                             refine pr 43 129 HT_ ?_
                             refine pr 44 130 HT_ ?_
                             refine pr 45 131 HT_ ?_
                             refine pr 49 135 HT_ ?_
                             refine pr 50 136 HT_ ?_
                             refine tr 35 121 HT_ HW_ hHeld ?_
                             refine pr 36 122 HT_ ?_
                             refine tr 37 123 HT_ HW_ hHeld ?_
                             refine tr 46 132 HT_ HW_ hHeld ?_
                             refine pr 47 133 HT_ ?_
                             refine tr 48 134 HT_ HW_ hHeld ?_
                             refine on 40 (some 126) HT_ (fun K hK => ?_)
                             refine gS Try.func62 #[.int .i64 (rd t251 ((rd_T88 t254 x14_4).f1)), .int .i64 (rd t251 ((rd_T88 t254 x10_2).f1)), .int .i64 (rd t251 ((rd_T88 t254 x10_2).f2))] ?_
                             with_reducible refine (gampref01_between.calls (rd t251 ((rd_T88 t254 x14_4).f1)) (rd t251 ((rd_T88 t254 x10_2).f1)) (rd t251 ((rd_T88 t254 x10_2).f2)) t273 _ A58.out).mono ?_
                             rintro e w64 ⟨rfl, hb⟩
                             have HS0_ := (hb.cell (World.block_lt_of_cell? _ _ (hHeld.1))).trans (hHeld.1)
                             have HS1_ := (hb.cell (World.block_lt_of_cell? _ _ (hHeld.2.1))).trans (hHeld.2.1)
                             have HS2_ := (hb.cell (World.block_lt_of_cell? _ _ (hHeld.2.2.1))).trans (hHeld.2.2.1)
                             have HS3_ := (hb.cell (World.block_lt_of_cell? _ _ (hHeld.2.2.2.1))).trans (hHeld.2.2.2.1)
                             have HS4_ := (hb.cell (World.block_lt_of_cell? _ _ (hHeld.2.2.2.2.1))).trans (hHeld.2.2.2.2.1)
                             have HS5_ := (hb.cell (World.block_lt_of_cell? _ _ (hHeld.2.2.2.2.2.1))).trans (hHeld.2.2.2.2.2.1)
                             have HS6_ := (hb.cell (World.block_lt_of_cell? _ _ (hHeld.2.2.2.2.2.2.1))).trans (hHeld.2.2.2.2.2.2.1)
                             have HS7_ := (hb.cell (World.block_lt_of_cell? _ _ (hHeld.2.2.2.2.2.2.2.1))).trans (hHeld.2.2.2.2.2.2.2.1)
                             have HS8_ := (hb.cell (World.block_lt_of_cell? _ _ (hHeld.2.2.2.2.2.2.2.2.1))).trans (hHeld.2.2.2.2.2.2.2.2.1)
                             have HS9_ := (hb.cell (World.block_lt_of_cell? _ _ (hHeld.2.2.2.2.2.2.2.2.2.1))).trans (hHeld.2.2.2.2.2.2.2.2.2.1)
                             have HS10_ := (hb.cell (World.block_lt_of_cell? _ _ (hHeld.2.2.2.2.2.2.2.2.2.2.1))).trans (hHeld.2.2.2.2.2.2.2.2.2.2.1)
                             have HS11_ := (hb.cell (World.block_lt_of_cell? _ _ (hHeld.2.2.2.2.2.2.2.2.2.2.2.1))).trans (hHeld.2.2.2.2.2.2.2.2.2.2.2.1)
                             have HS12_ := (hb.cell (World.block_lt_of_cell? _ _ (hHeld.2.2.2.2.2.2.2.2.2.2.2.2.1))).trans (hHeld.2.2.2.2.2.2.2.2.2.2.2.2.1)
                             have HS13_ := (hb.cell (World.block_lt_of_cell? _ _ (hHeld.2.2.2.2.2.2.2.2.2.2.2.2.2.1))).trans (hHeld.2.2.2.2.2.2.2.2.2.2.2.2.2.1)
                             have HS14_ := (hb.cell (World.block_lt_of_cell? _ _ (hHeld.2.2.2.2.2.2.2.2.2.2.2.2.2.2.1))).trans (hHeld.2.2.2.2.2.2.2.2.2.2.2.2.2.2.1)
                             have HS15_ := (hb.cell (World.block_lt_of_cell? _ _ (hHeld.2.2.2.2.2.2.2.2.2.2.2.2.2.2.2.1))).trans (hHeld.2.2.2.2.2.2.2.2.2.2.2.2.2.2.2.1)
                             have HS16_ := (hb.cell (World.block_lt_of_cell? _ _ (hHeld.2.2.2.2.2.2.2.2.2.2.2.2.2.2.2.2.1))).trans (hHeld.2.2.2.2.2.2.2.2.2.2.2.2.2.2.2.2.1)
                             have HS17_ := (hb.cell (World.block_lt_of_cell? _ _ (hHeld.2.2.2.2.2.2.2.2.2.2.2.2.2.2.2.2.2.1))).trans (hHeld.2.2.2.2.2.2.2.2.2.2.2.2.2.2.2.2.2.1)
                             have HS18_ := (hb.cell (World.block_lt_of_cell? _ _ (hHeld.2.2.2.2.2.2.2.2.2.2.2.2.2.2.2.2.2.2.1))).trans (hHeld.2.2.2.2.2.2.2.2.2.2.2.2.2.2.2.2.2.2.1)
                             have HS19_ := (hb.cell (World.block_lt_of_cell? _ _ (hHeld.2.2.2.2.2.2.2.2.2.2.2.2.2.2.2.2.2.2.2.1))).trans (hHeld.2.2.2.2.2.2.2.2.2.2.2.2.2.2.2.2.2.2.2.1)
                             have HS20_ := (hb.cell (World.block_lt_of_cell? _ _ (hHeld.2.2.2.2.2.2.2.2.2.2.2.2.2.2.2.2.2.2.2.2.1))).trans (hHeld.2.2.2.2.2.2.2.2.2.2.2.2.2.2.2.2.2.2.2.2.1)
                             have HS21_ := (hb.cell (World.block_lt_of_cell? _ _ (hHeld.2.2.2.2.2.2.2.2.2.2.2.2.2.2.2.2.2.2.2.2.2.1))).trans (hHeld.2.2.2.2.2.2.2.2.2.2.2.2.2.2.2.2.2.2.2.2.2.1)
                             have HS22_ := (hb.cell (World.block_lt_of_cell? _ _ (hHeld.2.2.2.2.2.2.2.2.2.2.2.2.2.2.2.2.2.2.2.2.2.2.1))).trans (hHeld.2.2.2.2.2.2.2.2.2.2.2.2.2.2.2.2.2.2.2.2.2.2.1)
                             have HS23_ := (hb.cell (World.block_lt_of_cell? _ _ (hHeld.2.2.2.2.2.2.2.2.2.2.2.2.2.2.2.2.2.2.2.2.2.2.2.1))).trans (hHeld.2.2.2.2.2.2.2.2.2.2.2.2.2.2.2.2.2.2.2.2.2.2.2.1)
                             have HS24_ := (hb.cell (World.block_lt_of_cell? _ _ (hHeld.2.2.2.2.2.2.2.2.2.2.2.2.2.2.2.2.2.2.2.2.2.2.2.2.1))).trans (hHeld.2.2.2.2.2.2.2.2.2.2.2.2.2.2.2.2.2.2.2.2.2.2.2.2.1)
                             have HS25_ := (hb.cell (World.block_lt_of_cell? _ _ (hHeld.2.2.2.2.2.2.2.2.2.2.2.2.2.2.2.2.2.2.2.2.2.2.2.2.2))).trans (hHeld.2.2.2.2.2.2.2.2.2.2.2.2.2.2.2.2.2.2.2.2.2.2.2.2.2)
                             refine ⟨_, rfl, ?_⟩
                             have n0_ := Aside0.mk (Kd.R_below (rl HO_7) hb)
                             have n1_ := Aside0.mk (Kd.R_below (rl HO_8) hb)
                             have n2_ := Aside0.mk (Kd.R_below (rl HO_9) hb)
                             have n3_ := Aside0.mk (below_step (bl HB) hb)
                             clear HO_7
                             clear HO_8
                             clear HO_9
                             clear HB
                             have HO_7 := n0_
                             have HO_8 := n1_
                             have HO_9 := n2_
                             have HB := n3_
                             clear n0_ n1_ n2_ n3_
                             (try clear hb)
                             (try clear hb2)
                             (try clear hk)
                             (try clear hi)
                             refine hK.out _ _ ⟨HS0_, HS1_, HS2_, HS3_, HS4_, HS5_, HS6_, HS7_, HS8_, HS9_, HS10_, HS11_, HS12_, HS13_, HS14_, HS15_, HS16_, HS17_, HS18_, HS19_, HS20_, HS21_, HS22_, HS23_, HS24_, HS25_⟩ (fun hHeld => ?_)
                             clear hK K
                             refine nr (some 126) ?_
                             refine on 51 (some 137) HT_ (fun K hK => ?_)
                             refine gS Try.func62 #[.int .i64 (rd t251 ((rd_T88 t254 x14_4).f2)), .int .i64 (rd t251 ((rd_T88 t254 x10_2).f1)), .int .i64 (rd t251 ((rd_T88 t254 x10_2).f2))] ?_
                             with_reducible refine (gampref01_between.calls (rd t251 ((rd_T88 t254 x14_4).f2)) (rd t251 ((rd_T88 t254 x10_2).f1)) (rd t251 ((rd_T88 t254 x10_2).f2)) t276 _ A61.out).mono ?_
                             rintro e w65 ⟨rfl, hb⟩
                             have HS0_ := (hb.cell (World.block_lt_of_cell? _ _ (hHeld.1))).trans (hHeld.1)
                             have HS1_ := (hb.cell (World.block_lt_of_cell? _ _ (hHeld.2.1))).trans (hHeld.2.1)
                             have HS2_ := (hb.cell (World.block_lt_of_cell? _ _ (hHeld.2.2.1))).trans (hHeld.2.2.1)
                             have HS3_ := (hb.cell (World.block_lt_of_cell? _ _ (hHeld.2.2.2.1))).trans (hHeld.2.2.2.1)
                             have HS4_ := (hb.cell (World.block_lt_of_cell? _ _ (hHeld.2.2.2.2.1))).trans (hHeld.2.2.2.2.1)
                             have HS5_ := (hb.cell (World.block_lt_of_cell? _ _ (hHeld.2.2.2.2.2.1))).trans (hHeld.2.2.2.2.2.1)
                             have HS6_ := (hb.cell (World.block_lt_of_cell? _ _ (hHeld.2.2.2.2.2.2.1))).trans (hHeld.2.2.2.2.2.2.1)
                             have HS7_ := (hb.cell (World.block_lt_of_cell? _ _ (hHeld.2.2.2.2.2.2.2.1))).trans (hHeld.2.2.2.2.2.2.2.1)
                             have HS8_ := (hb.cell (World.block_lt_of_cell? _ _ (hHeld.2.2.2.2.2.2.2.2.1))).trans (hHeld.2.2.2.2.2.2.2.2.1)
                             have HS9_ := (hb.cell (World.block_lt_of_cell? _ _ (hHeld.2.2.2.2.2.2.2.2.2.1))).trans (hHeld.2.2.2.2.2.2.2.2.2.1)
                             have HS10_ := (hb.cell (World.block_lt_of_cell? _ _ (hHeld.2.2.2.2.2.2.2.2.2.2.1))).trans (hHeld.2.2.2.2.2.2.2.2.2.2.1)
                             have HS11_ := (hb.cell (World.block_lt_of_cell? _ _ (hHeld.2.2.2.2.2.2.2.2.2.2.2.1))).trans (hHeld.2.2.2.2.2.2.2.2.2.2.2.1)
                             have HS12_ := (hb.cell (World.block_lt_of_cell? _ _ (hHeld.2.2.2.2.2.2.2.2.2.2.2.2.1))).trans (hHeld.2.2.2.2.2.2.2.2.2.2.2.2.1)
                             have HS13_ := (hb.cell (World.block_lt_of_cell? _ _ (hHeld.2.2.2.2.2.2.2.2.2.2.2.2.2.1))).trans (hHeld.2.2.2.2.2.2.2.2.2.2.2.2.2.1)
                             have HS14_ := (hb.cell (World.block_lt_of_cell? _ _ (hHeld.2.2.2.2.2.2.2.2.2.2.2.2.2.2.1))).trans (hHeld.2.2.2.2.2.2.2.2.2.2.2.2.2.2.1)
                             have HS15_ := (hb.cell (World.block_lt_of_cell? _ _ (hHeld.2.2.2.2.2.2.2.2.2.2.2.2.2.2.2.1))).trans (hHeld.2.2.2.2.2.2.2.2.2.2.2.2.2.2.2.1)
                             have HS16_ := (hb.cell (World.block_lt_of_cell? _ _ (hHeld.2.2.2.2.2.2.2.2.2.2.2.2.2.2.2.2.1))).trans (hHeld.2.2.2.2.2.2.2.2.2.2.2.2.2.2.2.2.1)
                             have HS17_ := (hb.cell (World.block_lt_of_cell? _ _ (hHeld.2.2.2.2.2.2.2.2.2.2.2.2.2.2.2.2.2.1))).trans (hHeld.2.2.2.2.2.2.2.2.2.2.2.2.2.2.2.2.2.1)
                             have HS18_ := (hb.cell (World.block_lt_of_cell? _ _ (hHeld.2.2.2.2.2.2.2.2.2.2.2.2.2.2.2.2.2.2.1))).trans (hHeld.2.2.2.2.2.2.2.2.2.2.2.2.2.2.2.2.2.2.1)
                             have HS19_ := (hb.cell (World.block_lt_of_cell? _ _ (hHeld.2.2.2.2.2.2.2.2.2.2.2.2.2.2.2.2.2.2.2.1))).trans (hHeld.2.2.2.2.2.2.2.2.2.2.2.2.2.2.2.2.2.2.2.1)
                             have HS20_ := (hb.cell (World.block_lt_of_cell? _ _ (hHeld.2.2.2.2.2.2.2.2.2.2.2.2.2.2.2.2.2.2.2.2.1))).trans (hHeld.2.2.2.2.2.2.2.2.2.2.2.2.2.2.2.2.2.2.2.2.1)
                             have HS21_ := (hb.cell (World.block_lt_of_cell? _ _ (hHeld.2.2.2.2.2.2.2.2.2.2.2.2.2.2.2.2.2.2.2.2.2.1))).trans (hHeld.2.2.2.2.2.2.2.2.2.2.2.2.2.2.2.2.2.2.2.2.2.1)
                             have HS22_ := (hb.cell (World.block_lt_of_cell? _ _ (hHeld.2.2.2.2.2.2.2.2.2.2.2.2.2.2.2.2.2.2.2.2.2.2.1))).trans (hHeld.2.2.2.2.2.2.2.2.2.2.2.2.2.2.2.2.2.2.2.2.2.2.1)
                             have HS23_ := (hb.cell (World.block_lt_of_cell? _ _ (hHeld.2.2.2.2.2.2.2.2.2.2.2.2.2.2.2.2.2.2.2.2.2.2.2.1))).trans (hHeld.2.2.2.2.2.2.2.2.2.2.2.2.2.2.2.2.2.2.2.2.2.2.2.1)
                             have HS24_ := (hb.cell (World.block_lt_of_cell? _ _ (hHeld.2.2.2.2.2.2.2.2.2.2.2.2.2.2.2.2.2.2.2.2.2.2.2.2.1))).trans (hHeld.2.2.2.2.2.2.2.2.2.2.2.2.2.2.2.2.2.2.2.2.2.2.2.2.1)
                             have HS25_ := (hb.cell (World.block_lt_of_cell? _ _ (hHeld.2.2.2.2.2.2.2.2.2.2.2.2.2.2.2.2.2.2.2.2.2.2.2.2.2))).trans (hHeld.2.2.2.2.2.2.2.2.2.2.2.2.2.2.2.2.2.2.2.2.2.2.2.2.2)
                             refine ⟨_, rfl, ?_⟩
                             have n0_ := Aside0.mk (Kd.R_below (rl HO_7) hb)
                             have n1_ := Aside0.mk (Kd.R_below (rl HO_8) hb)
                             have n2_ := Aside0.mk (Kd.R_below (rl HO_9) hb)
                             have n3_ := Aside0.mk (below_step (bl HB) hb)
                             clear HO_7
                             clear HO_8
                             clear HO_9
                             clear HB
                             have HO_7 := n0_
                             have HO_8 := n1_
                             have HO_9 := n2_
                             have HB := n3_
                             clear n0_ n1_ n2_ n3_
                             (try clear hb)
                             (try clear hb2)
                             (try clear hk)
                             (try clear hi)
                             refine hK.out _ _ ⟨HS0_, HS1_, HS2_, HS3_, HS4_, HS5_, HS6_, HS7_, HS8_, HS9_, HS10_, HS11_, HS12_, HS13_, HS14_, HS15_, HS16_, HS17_, HS18_, HS19_, HS20_, HS21_, HS22_, HS23_, HS24_, HS25_⟩ (fun hHeld => ?_)
                             clear hK K
                             refine nr (some 137) ?_
                             refine pr 52 138 HT_ ?_
                             refine pr 53 139 HT_ ?_
                             refine dn HT_ ?_
                             try go_wp2
                             go_ret
                             exact ⟨by first | rfl | (simp [errW_none, errW_some] <;> rfl) | (simp [*, errW_none, errW_some] <;> rfl), by repeat (first | (with_reducible first | exact HB.out | apply below_alloc | apply pw_below_drewN | apply below_drew1) | exact HB.out)⟩
                            ·rw [if_neg c62] at H
                             have c62b0 : (t273 != t276) = false := by simpa using c62
                             (try (have c62b1 : decide (t273 = t276) = true := by simpa using c62))
                             (try (have c62b2 : (t273 == t276) = true := by simpa using c62))
                             clear c62
                             have H' := Aside0.mk H
                             clear H
                             try go_wp2
                             have n0_ := Aside0.mk (Kd.R_drew HO_7.out)
                             have n1_ := Aside0.mk (Kd.R_drew HO_8.out)
                             have n2_ := Aside0.mk (Kd.R_drew HO_9.out)
                             have n3_ := Aside0.mk (below_drew1 HB.out)
                             clear HO_7
                             clear HO_8
                             clear HO_9
                             clear HB
                             have HO_7 := n0_
                             have HO_8 := n1_
                             have HO_9 := n2_
                             have HB := n3_
                             clear n0_ n1_ n2_ n3_
                             have p267 : 0 ≤ (x14_4 : Int) := ofd
                             have q267 : x14_4 < (t254.length : Int) := ofd
                             obtain ⟨ad267, e267, hx267_0, hx267_1, hx267_2, hx267_3⟩ := at_T88 (Kd.R_reads' HO_9.out).2.2 x14_4 p267 q267
                             obtain rfl : ad257 = ad267 := (by injection e267)
                             replace p267 := eq_true p267
                             replace q267 := eq_true q267
                             have p268 : 0 ≤ (x10_2 : Int) := ofd
                             have q268 : x10_2 < (t254.length : Int) := ofd
                             obtain ⟨ad268, e268, hx268_0, hx268_1, hx268_2, hx268_3⟩ := at_T88 (Kd.R_reads' HO_9.out).2.2 x10_2 p268 q268
                             obtain rfl : ad257 = ad268 := (by injection e268)
                             replace p268 := eq_true p268
                             replace q268 := eq_true q268
                             have p269 : 0 ≤ (x14_4 : Int) := ofd
                             have q269 : x14_4 < (t254.length : Int) := ofd
                             obtain ⟨ad269, e269, hx269_0, hx269_1, hx269_2, hx269_3⟩ := at_T88 (Kd.R_reads' HO_9.out).2.2 x14_4 p269 q269
                             obtain rfl : ad257 = ad269 := (by injection e269)
                             replace p269 := eq_true p269
                             replace q269 := eq_true q269
                             have p270 : 0 ≤ (x10_2 : Int) := ofd
                             have q270 : x10_2 < (t254.length : Int) := ofd
                             obtain ⟨ad270, e270, hx270_0, hx270_1, hx270_2, hx270_3⟩ := at_T88 (Kd.R_reads' HO_9.out).2.2 x10_2 p270 q270
                             obtain rfl : ad257 = ad270 := (by injection e270)
                             replace p270 := eq_true p270
                             replace q270 := eq_true q270
                             have p271 : 0 ≤ (x14_4 : Int) := ofd
                             have q271 : x14_4 < (t254.length : Int) := ofd
                             obtain ⟨ad271, e271, hx271_0, hx271_1, hx271_2, hx271_3⟩ := at_T88 (Kd.R_reads' HO_9.out).2.2 x14_4 p271 q271
                             obtain rfl : ad257 = ad271 := (by injection e271)
                             replace p271 := eq_true p271
                             replace q271 := eq_true q271
                             have p272 : 0 ≤ (((rd_T88 t254 x14_4).f1) : Int) := ofd
                             have q272 : ((rd_T88 t254 x14_4).f1) < (t251.length : Int) := ofd
                             obtain ⟨ad272, e272, hx272_0⟩ := Kd.at_int (Kd.R_reads' HO_8.out).2.2 ((rd_T88 t254 x14_4).f1) p272 q272
                             obtain rfl : ad258 = ad272 := (by injection e272)
                             replace p272 := eq_true p272
                             replace q272 := eq_true q272
                             have p274 : 0 ≤ (x14_4 : Int) := ofd
                             have q274 : x14_4 < (t254.length : Int) := ofd
                             obtain ⟨ad274, e274, hx274_0, hx274_1, hx274_2, hx274_3⟩ := at_T88 (Kd.R_reads' HO_9.out).2.2 x14_4 p274 q274
                             obtain rfl : ad257 = ad274 := (by injection e274)
                             replace p274 := eq_true p274
                             replace q274 := eq_true q274
                             have p275 : 0 ≤ (((rd_T88 t254 x14_4).f2) : Int) := ofd
                             have q275 : ((rd_T88 t254 x14_4).f2) < (t251.length : Int) := ofd
                             obtain ⟨ad275, e275, hx275_0⟩ := Kd.at_int (Kd.R_reads' HO_8.out).2.2 ((rd_T88 t254 x14_4).f2) p275 q275
                             obtain rfl : ad258 = ad275 := (by injection e275)
                             replace p275 := eq_true p275
                             replace q275 := eq_true q275
                             refine start_ (n := 54) (S := fun w' => w'.cell? (ad257.add ((x14_4).toNat * 4)) = some (.int .i64 ((rd_T88 t254 x14_4).f0)) ∧ w'.cell? ⟨(ad257.add ((x14_4).toNat * 4)).block, (ad257.add ((x14_4).toNat * 4)).off + 1, none⟩ = some (.int .i64 ((rd_T88 t254 x14_4).f1)) ∧ w'.cell? ⟨(ad257.add ((x14_4).toNat * 4)).block, (ad257.add ((x14_4).toNat * 4)).off + 2, none⟩ = some (.int .i64 ((rd_T88 t254 x14_4).f2)) ∧ w'.cell? ⟨(ad257.add ((x14_4).toNat * 4)).block, (ad257.add ((x14_4).toNat * 4)).off + 3, none⟩ = some (.bool ((rd_T88 t254 x14_4).f3)) ∧ w'.cell? (ad257.add ((x10_2).toNat * 4)) = some (.int .i64 ((rd_T88 t254 x10_2).f0)) ∧ w'.cell? ⟨(ad257.add ((x10_2).toNat * 4)).block, (ad257.add ((x10_2).toNat * 4)).off + 1, none⟩ = some (.int .i64 ((rd_T88 t254 x10_2).f1)) ∧ w'.cell? ⟨(ad257.add ((x10_2).toNat * 4)).block, (ad257.add ((x10_2).toNat * 4)).off + 2, none⟩ = some (.int .i64 ((rd_T88 t254 x10_2).f2)) ∧ w'.cell? ⟨(ad257.add ((x10_2).toNat * 4)).block, (ad257.add ((x10_2).toNat * 4)).off + 3, none⟩ = some (.bool ((rd_T88 t254 x10_2).f3)) ∧ w'.cell? (ad257.add ((x14_4).toNat * 4)) = some (.int .i64 ((rd_T88 t254 x14_4).f0)) ∧ w'.cell? ⟨(ad257.add ((x14_4).toNat * 4)).block, (ad257.add ((x14_4).toNat * 4)).off + 1, none⟩ = some (.int .i64 ((rd_T88 t254 x14_4).f1)) ∧ w'.cell? ⟨(ad257.add ((x14_4).toNat * 4)).block, (ad257.add ((x14_4).toNat * 4)).off + 2, none⟩ = some (.int .i64 ((rd_T88 t254 x14_4).f2)) ∧ w'.cell? ⟨(ad257.add ((x14_4).toNat * 4)).block, (ad257.add ((x14_4).toNat * 4)).off + 3, none⟩ = some (.bool ((rd_T88 t254 x14_4).f3)) ∧ w'.cell? (ad257.add ((x10_2).toNat * 4)) = some (.int .i64 ((rd_T88 t254 x10_2).f0)) ∧ w'.cell? ⟨(ad257.add ((x10_2).toNat * 4)).block, (ad257.add ((x10_2).toNat * 4)).off + 1, none⟩ = some (.int .i64 ((rd_T88 t254 x10_2).f1)) ∧ w'.cell? ⟨(ad257.add ((x10_2).toNat * 4)).block, (ad257.add ((x10_2).toNat * 4)).off + 2, none⟩ = some (.int .i64 ((rd_T88 t254 x10_2).f2)) ∧ w'.cell? ⟨(ad257.add ((x10_2).toNat * 4)).block, (ad257.add ((x10_2).toNat * 4)).off + 3, none⟩ = some (.bool ((rd_T88 t254 x10_2).f3)) ∧ w'.cell? (ad257.add ((x14_4).toNat * 4)) = some (.int .i64 ((rd_T88 t254 x14_4).f0)) ∧ w'.cell? ⟨(ad257.add ((x14_4).toNat * 4)).block, (ad257.add ((x14_4).toNat * 4)).off + 1, none⟩ = some (.int .i64 ((rd_T88 t254 x14_4).f1)) ∧ w'.cell? ⟨(ad257.add ((x14_4).toNat * 4)).block, (ad257.add ((x14_4).toNat * 4)).off + 2, none⟩ = some (.int .i64 ((rd_T88 t254 x14_4).f2)) ∧ w'.cell? ⟨(ad257.add ((x14_4).toNat * 4)).block, (ad257.add ((x14_4).toNat * 4)).off + 3, none⟩ = some (.bool ((rd_T88 t254 x14_4).f3)) ∧ w'.cell? (ad258.add (((rd_T88 t254 x14_4).f1)).toNat) = some (.int .i64 (rd t251 ((rd_T88 t254 x14_4).f1))) ∧ w'.cell? (ad257.add ((x14_4).toNat * 4)) = some (.int .i64 ((rd_T88 t254 x14_4).f0)) ∧ w'.cell? ⟨(ad257.add ((x14_4).toNat * 4)).block, (ad257.add ((x14_4).toNat * 4)).off + 1, none⟩ = some (.int .i64 ((rd_T88 t254 x14_4).f1)) ∧ w'.cell? ⟨(ad257.add ((x14_4).toNat * 4)).block, (ad257.add ((x14_4).toNat * 4)).off + 2, none⟩ = some (.int .i64 ((rd_T88 t254 x14_4).f2)) ∧ w'.cell? ⟨(ad257.add ((x14_4).toNat * 4)).block, (ad257.add ((x14_4).toNat * 4)).off + 3, none⟩ = some (.bool ((rd_T88 t254 x14_4).f3)) ∧ w'.cell? (ad258.add (((rd_T88 t254 x14_4).f2)).toNat) = some (.int .i64 (rd t251 ((rd_T88 t254 x14_4).f2)))) (ds := []) #[false, false, false, false, false, false, false, false, false, false, false, false, false, false, false, false, false, false, false, false, false, false, false, false, false, false, false, false, false, false, false, false, false, false, false, false, false, false, false, false, false, false, false, false, false, false, false, false, false, false, false, false, false, false] (by kernel_rfl) rfl rfl ⟨hx267_0, hx267_1, hx267_2, hx267_3, hx268_0, hx268_1, hx268_2, hx268_3, hx269_0, hx269_1, hx269_2, hx269_3, hx270_0, hx270_1, hx270_2, hx270_3, hx271_0, hx271_1, hx271_2, hx271_3, hx272_0, hx274_0, hx274_1, hx274_2, hx274_3, hx275_0⟩ (fun hHeld => ?_); refine with_tabW gampref01_Folds.tab16 gampref01_Folds.bits16 (fun HT_ HW_ => ?_)
                             generalize wr.drew = w66 at HO_7 HO_8 HO_9 HB hx267_0 hx267_1 hx267_2 hx267_3 hx268_0 hx268_1 hx268_2 hx268_3 hx269_0 hx269_1 hx269_2 hx269_3 hx270_0 hx270_1 hx270_2 hx270_3 hx271_0 hx271_1 hx271_2 hx271_3 hx272_0 hx274_0 hx274_1 hx274_2 hx274_3 hx275_0 hHeld ⊢
                             refine pr 0 86 HT_ ?_
                             refine pr 1 87 HT_ ?_
                             refine pr 2 88 HT_ ?_
                             refine pr 3 89 HT_ ?_
                             refine pr 4 90 HT_ ?_
                             refine pr 5 91 HT_ ?_
                             refine pr 6 92 HT_ ?_
                             refine pr 7 93 HT_ ?_
                             refine pr 9 95 HT_ ?_
                             refine pr 10 96 HT_ ?_
                             refine pr 11 97 HT_ ?_
                             refine pr 12 98 HT_ ?_
                             refine tr 8 94 HT_ HW_ hHeld ?_
                             refine tr 13 99 HT_ HW_ hHeld ?_
                             refine pr 14 100 HT_ ?_
                             refine pr 15 101 HT_ ?_
                             refine pr 16 102 HT_ ?_
                             refine pr 17 103 HT_ ?_
                             refine pr 18 104 HT_ ?_
                             refine pr 19 105 HT_ ?_
                             refine pr 20 106 HT_ ?_
                             refine pr 22 108 HT_ ?_
                             refine pr 23 109 HT_ ?_
                             refine pr 24 110 HT_ ?_
                             refine pr 25 111 HT_ ?_
                             refine tr 21 107 HT_ HW_ hHeld ?_
                             refine tr 26 112 HT_ HW_ hHeld ?_
                             refine pr 27 113 HT_ ?_
                             refine pr 28 114 HT_ ?_
                             refine pr 29 115 HT_ ?_
                             refine pr 30 116 HT_ ?_
                             refine pr 31 117 HT_ ?_
                             refine pr 32 118 HT_ ?_
                             refine pr 33 119 HT_ ?_
                             refine pr 34 120 HT_ ?_
                             refine pr 38 124 HT_ ?_
                             refine pr 39 125 HT_ ?_
                             refine pr 41 127 HT_ ?_
                             refine pr 42 128 HT_ ?_
                             refine pr 43 129 HT_ ?_
                             refine pr 44 130 HT_ ?_
                             refine pr 45 131 HT_ ?_
                             refine pr 49 135 HT_ ?_
                             refine pr 50 136 HT_ ?_
                             refine tr 35 121 HT_ HW_ hHeld ?_
                             refine pr 36 122 HT_ ?_
                             refine tr 37 123 HT_ HW_ hHeld ?_
                             refine tr 46 132 HT_ HW_ hHeld ?_
                             refine pr 47 133 HT_ ?_
                             refine tr 48 134 HT_ HW_ hHeld ?_
                             refine on 40 (some 126) HT_ (fun K hK => ?_)
                             refine gS Try.func62 #[.int .i64 (rd t251 ((rd_T88 t254 x14_4).f1)), .int .i64 (rd t251 ((rd_T88 t254 x10_2).f1)), .int .i64 (rd t251 ((rd_T88 t254 x10_2).f2))] ?_
                             with_reducible refine (gampref01_between.calls (rd t251 ((rd_T88 t254 x14_4).f1)) (rd t251 ((rd_T88 t254 x10_2).f1)) (rd t251 ((rd_T88 t254 x10_2).f2)) t273 _ A58.out).mono ?_
                             rintro e w67 ⟨rfl, hb⟩
                             have HS0_ := (hb.cell (World.block_lt_of_cell? _ _ (hHeld.1))).trans (hHeld.1)
                             have HS1_ := (hb.cell (World.block_lt_of_cell? _ _ (hHeld.2.1))).trans (hHeld.2.1)
                             have HS2_ := (hb.cell (World.block_lt_of_cell? _ _ (hHeld.2.2.1))).trans (hHeld.2.2.1)
                             have HS3_ := (hb.cell (World.block_lt_of_cell? _ _ (hHeld.2.2.2.1))).trans (hHeld.2.2.2.1)
                             have HS4_ := (hb.cell (World.block_lt_of_cell? _ _ (hHeld.2.2.2.2.1))).trans (hHeld.2.2.2.2.1)
                             have HS5_ := (hb.cell (World.block_lt_of_cell? _ _ (hHeld.2.2.2.2.2.1))).trans (hHeld.2.2.2.2.2.1)
                             have HS6_ := (hb.cell (World.block_lt_of_cell? _ _ (hHeld.2.2.2.2.2.2.1))).trans (hHeld.2.2.2.2.2.2.1)
                             have HS7_ := (hb.cell (World.block_lt_of_cell? _ _ (hHeld.2.2.2.2.2.2.2.1))).trans (hHeld.2.2.2.2.2.2.2.1)
                             have HS8_ := (hb.cell (World.block_lt_of_cell? _ _ (hHeld.2.2.2.2.2.2.2.2.1))).trans (hHeld.2.2.2.2.2.2.2.2.1)
                             have HS9_ := (hb.cell (World.block_lt_of_cell? _ _ (hHeld.2.2.2.2.2.2.2.2.2.1))).trans (hHeld.2.2.2.2.2.2.2.2.2.1)
                             have HS10_ := (hb.cell (World.block_lt_of_cell? _ _ (hHeld.2.2.2.2.2.2.2.2.2.2.1))).trans (hHeld.2.2.2.2.2.2.2.2.2.2.1)
                             have HS11_ := (hb.cell (World.block_lt_of_cell? _ _ (hHeld.2.2.2.2.2.2.2.2.2.2.2.1))).trans (hHeld.2.2.2.2.2.2.2.2.2.2.2.1)
                             have HS12_ := (hb.cell (World.block_lt_of_cell? _ _ (hHeld.2.2.2.2.2.2.2.2.2.2.2.2.1))).trans (hHeld.2.2.2.2.2.2.2.2.2.2.2.2.1)
                             have HS13_ := (hb.cell (World.block_lt_of_cell? _ _ (hHeld.2.2.2.2.2.2.2.2.2.2.2.2.2.1))).trans (hHeld.2.2.2.2.2.2.2.2.2.2.2.2.2.1)
                             have HS14_ := (hb.cell (World.block_lt_of_cell? _ _ (hHeld.2.2.2.2.2.2.2.2.2.2.2.2.2.2.1))).trans (hHeld.2.2.2.2.2.2.2.2.2.2.2.2.2.2.1)
                             have HS15_ := (hb.cell (World.block_lt_of_cell? _ _ (hHeld.2.2.2.2.2.2.2.2.2.2.2.2.2.2.2.1))).trans (hHeld.2.2.2.2.2.2.2.2.2.2.2.2.2.2.2.1)
                             have HS16_ := (hb.cell (World.block_lt_of_cell? _ _ (hHeld.2.2.2.2.2.2.2.2.2.2.2.2.2.2.2.2.1))).trans (hHeld.2.2.2.2.2.2.2.2.2.2.2.2.2.2.2.2.1)
                             have HS17_ := (hb.cell (World.block_lt_of_cell? _ _ (hHeld.2.2.2.2.2.2.2.2.2.2.2.2.2.2.2.2.2.1))).trans (hHeld.2.2.2.2.2.2.2.2.2.2.2.2.2.2.2.2.2.1)
                             have HS18_ := (hb.cell (World.block_lt_of_cell? _ _ (hHeld.2.2.2.2.2.2.2.2.2.2.2.2.2.2.2.2.2.2.1))).trans (hHeld.2.2.2.2.2.2.2.2.2.2.2.2.2.2.2.2.2.2.1)
                             have HS19_ := (hb.cell (World.block_lt_of_cell? _ _ (hHeld.2.2.2.2.2.2.2.2.2.2.2.2.2.2.2.2.2.2.2.1))).trans (hHeld.2.2.2.2.2.2.2.2.2.2.2.2.2.2.2.2.2.2.2.1)
                             have HS20_ := (hb.cell (World.block_lt_of_cell? _ _ (hHeld.2.2.2.2.2.2.2.2.2.2.2.2.2.2.2.2.2.2.2.2.1))).trans (hHeld.2.2.2.2.2.2.2.2.2.2.2.2.2.2.2.2.2.2.2.2.1)
                             have HS21_ := (hb.cell (World.block_lt_of_cell? _ _ (hHeld.2.2.2.2.2.2.2.2.2.2.2.2.2.2.2.2.2.2.2.2.2.1))).trans (hHeld.2.2.2.2.2.2.2.2.2.2.2.2.2.2.2.2.2.2.2.2.2.1)
                             have HS22_ := (hb.cell (World.block_lt_of_cell? _ _ (hHeld.2.2.2.2.2.2.2.2.2.2.2.2.2.2.2.2.2.2.2.2.2.2.1))).trans (hHeld.2.2.2.2.2.2.2.2.2.2.2.2.2.2.2.2.2.2.2.2.2.2.1)
                             have HS23_ := (hb.cell (World.block_lt_of_cell? _ _ (hHeld.2.2.2.2.2.2.2.2.2.2.2.2.2.2.2.2.2.2.2.2.2.2.2.1))).trans (hHeld.2.2.2.2.2.2.2.2.2.2.2.2.2.2.2.2.2.2.2.2.2.2.2.1)
                             have HS24_ := (hb.cell (World.block_lt_of_cell? _ _ (hHeld.2.2.2.2.2.2.2.2.2.2.2.2.2.2.2.2.2.2.2.2.2.2.2.2.1))).trans (hHeld.2.2.2.2.2.2.2.2.2.2.2.2.2.2.2.2.2.2.2.2.2.2.2.2.1)
                             have HS25_ := (hb.cell (World.block_lt_of_cell? _ _ (hHeld.2.2.2.2.2.2.2.2.2.2.2.2.2.2.2.2.2.2.2.2.2.2.2.2.2))).trans (hHeld.2.2.2.2.2.2.2.2.2.2.2.2.2.2.2.2.2.2.2.2.2.2.2.2.2)
                             refine ⟨_, rfl, ?_⟩
                             have n0_ := Aside0.mk (Kd.R_below (rl HO_7) hb)
                             have n1_ := Aside0.mk (Kd.R_below (rl HO_8) hb)
                             have n2_ := Aside0.mk (Kd.R_below (rl HO_9) hb)
                             have n3_ := Aside0.mk (below_step (bl HB) hb)
                             clear HO_7
                             clear HO_8
                             clear HO_9
                             clear HB
                             have HO_7 := n0_
                             have HO_8 := n1_
                             have HO_9 := n2_
                             have HB := n3_
                             clear n0_ n1_ n2_ n3_
                             (try clear hb)
                             (try clear hb2)
                             (try clear hk)
                             (try clear hi)
                             refine hK.out _ _ ⟨HS0_, HS1_, HS2_, HS3_, HS4_, HS5_, HS6_, HS7_, HS8_, HS9_, HS10_, HS11_, HS12_, HS13_, HS14_, HS15_, HS16_, HS17_, HS18_, HS19_, HS20_, HS21_, HS22_, HS23_, HS24_, HS25_⟩ (fun hHeld => ?_)
                             clear hK K
                             refine nr (some 126) ?_
                             refine on 51 (some 137) HT_ (fun K hK => ?_)
                             refine gS Try.func62 #[.int .i64 (rd t251 ((rd_T88 t254 x14_4).f2)), .int .i64 (rd t251 ((rd_T88 t254 x10_2).f1)), .int .i64 (rd t251 ((rd_T88 t254 x10_2).f2))] ?_
                             with_reducible refine (gampref01_between.calls (rd t251 ((rd_T88 t254 x14_4).f2)) (rd t251 ((rd_T88 t254 x10_2).f1)) (rd t251 ((rd_T88 t254 x10_2).f2)) t276 _ A61.out).mono ?_
                             rintro e w68 ⟨rfl, hb⟩
                             have HS0_ := (hb.cell (World.block_lt_of_cell? _ _ (hHeld.1))).trans (hHeld.1)
                             have HS1_ := (hb.cell (World.block_lt_of_cell? _ _ (hHeld.2.1))).trans (hHeld.2.1)
                             have HS2_ := (hb.cell (World.block_lt_of_cell? _ _ (hHeld.2.2.1))).trans (hHeld.2.2.1)
                             have HS3_ := (hb.cell (World.block_lt_of_cell? _ _ (hHeld.2.2.2.1))).trans (hHeld.2.2.2.1)
                             have HS4_ := (hb.cell (World.block_lt_of_cell? _ _ (hHeld.2.2.2.2.1))).trans (hHeld.2.2.2.2.1)
                             have HS5_ := (hb.cell (World.block_lt_of_cell? _ _ (hHeld.2.2.2.2.2.1))).trans (hHeld.2.2.2.2.2.1)
                             have HS6_ := (hb.cell (World.block_lt_of_cell? _ _ (hHeld.2.2.2.2.2.2.1))).trans (hHeld.2.2.2.2.2.2.1)
                             have HS7_ := (hb.cell (World.block_lt_of_cell? _ _ (hHeld.2.2.2.2.2.2.2.1))).trans (hHeld.2.2.2.2.2.2.2.1)
                             have HS8_ := (hb.cell (World.block_lt_of_cell? _ _ (hHeld.2.2.2.2.2.2.2.2.1))).trans (hHeld.2.2.2.2.2.2.2.2.1)
                             have HS9_ := (hb.cell (World.block_lt_of_cell? _ _ (hHeld.2.2.2.2.2.2.2.2.2.1))).trans (hHeld.2.2.2.2.2.2.2.2.2.1)
                             have HS10_ := (hb.cell (World.block_lt_of_cell? _ _ (hHeld.2.2.2.2.2.2.2.2.2.2.1))).trans (hHeld.2.2.2.2.2.2.2.2.2.2.1)
                             have HS11_ := (hb.cell (World.block_lt_of_cell? _ _ (hHeld.2.2.2.2.2.2.2.2.2.2.2.1))).trans (hHeld.2.2.2.2.2.2.2.2.2.2.2.1)
                             have HS12_ := (hb.cell (World.block_lt_of_cell? _ _ (hHeld.2.2.2.2.2.2.2.2.2.2.2.2.1))).trans (hHeld.2.2.2.2.2.2.2.2.2.2.2.2.1)
                             have HS13_ := (hb.cell (World.block_lt_of_cell? _ _ (hHeld.2.2.2.2.2.2.2.2.2.2.2.2.2.1))).trans (hHeld.2.2.2.2.2.2.2.2.2.2.2.2.2.1)
                             have HS14_ := (hb.cell (World.block_lt_of_cell? _ _ (hHeld.2.2.2.2.2.2.2.2.2.2.2.2.2.2.1))).trans (hHeld.2.2.2.2.2.2.2.2.2.2.2.2.2.2.1)
                             have HS15_ := (hb.cell (World.block_lt_of_cell? _ _ (hHeld.2.2.2.2.2.2.2.2.2.2.2.2.2.2.2.1))).trans (hHeld.2.2.2.2.2.2.2.2.2.2.2.2.2.2.2.1)
                             have HS16_ := (hb.cell (World.block_lt_of_cell? _ _ (hHeld.2.2.2.2.2.2.2.2.2.2.2.2.2.2.2.2.1))).trans (hHeld.2.2.2.2.2.2.2.2.2.2.2.2.2.2.2.2.1)
                             have HS17_ := (hb.cell (World.block_lt_of_cell? _ _ (hHeld.2.2.2.2.2.2.2.2.2.2.2.2.2.2.2.2.2.1))).trans (hHeld.2.2.2.2.2.2.2.2.2.2.2.2.2.2.2.2.2.1)
                             have HS18_ := (hb.cell (World.block_lt_of_cell? _ _ (hHeld.2.2.2.2.2.2.2.2.2.2.2.2.2.2.2.2.2.2.1))).trans (hHeld.2.2.2.2.2.2.2.2.2.2.2.2.2.2.2.2.2.2.1)
                             have HS19_ := (hb.cell (World.block_lt_of_cell? _ _ (hHeld.2.2.2.2.2.2.2.2.2.2.2.2.2.2.2.2.2.2.2.1))).trans (hHeld.2.2.2.2.2.2.2.2.2.2.2.2.2.2.2.2.2.2.2.1)
                             have HS20_ := (hb.cell (World.block_lt_of_cell? _ _ (hHeld.2.2.2.2.2.2.2.2.2.2.2.2.2.2.2.2.2.2.2.2.1))).trans (hHeld.2.2.2.2.2.2.2.2.2.2.2.2.2.2.2.2.2.2.2.2.1)
                             have HS21_ := (hb.cell (World.block_lt_of_cell? _ _ (hHeld.2.2.2.2.2.2.2.2.2.2.2.2.2.2.2.2.2.2.2.2.2.1))).trans (hHeld.2.2.2.2.2.2.2.2.2.2.2.2.2.2.2.2.2.2.2.2.2.1)
                             have HS22_ := (hb.cell (World.block_lt_of_cell? _ _ (hHeld.2.2.2.2.2.2.2.2.2.2.2.2.2.2.2.2.2.2.2.2.2.2.1))).trans (hHeld.2.2.2.2.2.2.2.2.2.2.2.2.2.2.2.2.2.2.2.2.2.2.1)
                             have HS23_ := (hb.cell (World.block_lt_of_cell? _ _ (hHeld.2.2.2.2.2.2.2.2.2.2.2.2.2.2.2.2.2.2.2.2.2.2.2.1))).trans (hHeld.2.2.2.2.2.2.2.2.2.2.2.2.2.2.2.2.2.2.2.2.2.2.2.1)
                             have HS24_ := (hb.cell (World.block_lt_of_cell? _ _ (hHeld.2.2.2.2.2.2.2.2.2.2.2.2.2.2.2.2.2.2.2.2.2.2.2.2.1))).trans (hHeld.2.2.2.2.2.2.2.2.2.2.2.2.2.2.2.2.2.2.2.2.2.2.2.2.1)
                             have HS25_ := (hb.cell (World.block_lt_of_cell? _ _ (hHeld.2.2.2.2.2.2.2.2.2.2.2.2.2.2.2.2.2.2.2.2.2.2.2.2.2))).trans (hHeld.2.2.2.2.2.2.2.2.2.2.2.2.2.2.2.2.2.2.2.2.2.2.2.2.2)
                             refine ⟨_, rfl, ?_⟩
                             have n0_ := Aside0.mk (Kd.R_below (rl HO_7) hb)
                             have n1_ := Aside0.mk (Kd.R_below (rl HO_8) hb)
                             have n2_ := Aside0.mk (Kd.R_below (rl HO_9) hb)
                             have n3_ := Aside0.mk (below_step (bl HB) hb)
                             clear HO_7
                             clear HO_8
                             clear HO_9
                             clear HB
                             have HO_7 := n0_
                             have HO_8 := n1_
                             have HO_9 := n2_
                             have HB := n3_
                             clear n0_ n1_ n2_ n3_
                             (try clear hb)
                             (try clear hb2)
                             (try clear hk)
                             (try clear hi)
                             refine hK.out _ _ ⟨HS0_, HS1_, HS2_, HS3_, HS4_, HS5_, HS6_, HS7_, HS8_, HS9_, HS10_, HS11_, HS12_, HS13_, HS14_, HS15_, HS16_, HS17_, HS18_, HS19_, HS20_, HS21_, HS22_, HS23_, HS24_, HS25_⟩ (fun hHeld => ?_)
                             clear hK K
                             refine nr (some 137) ?_
                             refine pr 52 138 HT_ ?_
                             refine pr 53 139 HT_ ?_
                             refine dn HT_ ?_
                             try go_wp2
                             go_roundg k4
                             case measure => have := HJ3.out; have := HK2.out; have := HK3.out; have := HK4.out; omega
                             case rel => exact ⟨(wrap64 (x14_4 + 1)), (by first | rfl | (simp; done) | (simp [*]; done)), H', ⟨by have := HJ3.out; have := HK2.out; have := HK3.out; have := HK4.out; omega⟩, ⟨rl HO_7⟩, ⟨rl HO_8⟩, ⟨rl HO_9⟩, ⟨bl HB⟩⟩
                           ·rw [if_neg c60] at H
                            exact absurd H (by simp)
                          ·rw [if_neg c59] at H
                           exact absurd H (by simp)
                         ·rw [if_neg c57] at H
                          exact absurd H (by simp)
                        ·rw [if_neg c56] at H
                         exact absurd H (by simp)
                       ·rw [if_neg c55] at H
                        have c55b0 : (((rd_T88 t254 x14_4).f3) == ((rd_T88 t254 x10_2).f3)) = false := by simpa using c55
                        (try (have c55b1 : decide (((rd_T88 t254 x14_4).f3) = ((rd_T88 t254 x10_2).f3)) = false := by simpa using c55))
                        (try (have c55b2 : (((rd_T88 t254 x14_4).f3) == ((rd_T88 t254 x10_2).f3)) = false := by simpa using c55))
                        (try (have c55b3 : ¬ (((rd_T88 t254 x14_4).f3) = ((rd_T88 t254 x10_2).f3)) := by simpa using c55))
                        clear c55
                        have H' := Aside0.mk H
                        clear H
                        try go_wp2
                        have n0_ := Aside0.mk (Kd.R_drew HO_7.out)
                        have n1_ := Aside0.mk (Kd.R_drew HO_8.out)
                        have n2_ := Aside0.mk (Kd.R_drew HO_9.out)
                        have n3_ := Aside0.mk (below_drew1 HB.out)
                        clear HO_7
                        clear HO_8
                        clear HO_9
                        clear HB
                        have HO_7 := n0_
                        have HO_8 := n1_
                        have HO_9 := n2_
                        have HB := n3_
                        clear n0_ n1_ n2_ n3_
                        have p267 : 0 ≤ (x14_4 : Int) := ofd
                        have q267 : x14_4 < (t254.length : Int) := ofd
                        obtain ⟨ad267, e267, hx267_0, hx267_1, hx267_2, hx267_3⟩ := at_T88 (Kd.R_reads' HO_9.out).2.2 x14_4 p267 q267
                        obtain rfl : ad257 = ad267 := (by injection e267)
                        replace p267 := eq_true p267
                        replace q267 := eq_true q267
                        have p268 : 0 ≤ (x10_2 : Int) := ofd
                        have q268 : x10_2 < (t254.length : Int) := ofd
                        obtain ⟨ad268, e268, hx268_0, hx268_1, hx268_2, hx268_3⟩ := at_T88 (Kd.R_reads' HO_9.out).2.2 x10_2 p268 q268
                        obtain rfl : ad257 = ad268 := (by injection e268)
                        replace p268 := eq_true p268
                        replace q268 := eq_true q268
                        have p269 : 0 ≤ (x14_4 : Int) := ofd
                        have q269 : x14_4 < (t254.length : Int) := ofd
                        obtain ⟨ad269, e269, hx269_0, hx269_1, hx269_2, hx269_3⟩ := at_T88 (Kd.R_reads' HO_9.out).2.2 x14_4 p269 q269
                        obtain rfl : ad257 = ad269 := (by injection e269)
                        replace p269 := eq_true p269
                        replace q269 := eq_true q269
                        have p270 : 0 ≤ (x10_2 : Int) := ofd
                        have q270 : x10_2 < (t254.length : Int) := ofd
                        obtain ⟨ad270, e270, hx270_0, hx270_1, hx270_2, hx270_3⟩ := at_T88 (Kd.R_reads' HO_9.out).2.2 x10_2 p270 q270
                        obtain rfl : ad257 = ad270 := (by injection e270)
                        replace p270 := eq_true p270
                        replace q270 := eq_true q270
                        refine start_ (n := 54) (S := fun w' => w'.cell? (ad257.add ((x14_4).toNat * 4)) = some (.int .i64 ((rd_T88 t254 x14_4).f0)) ∧ w'.cell? ⟨(ad257.add ((x14_4).toNat * 4)).block, (ad257.add ((x14_4).toNat * 4)).off + 1, none⟩ = some (.int .i64 ((rd_T88 t254 x14_4).f1)) ∧ w'.cell? ⟨(ad257.add ((x14_4).toNat * 4)).block, (ad257.add ((x14_4).toNat * 4)).off + 2, none⟩ = some (.int .i64 ((rd_T88 t254 x14_4).f2)) ∧ w'.cell? ⟨(ad257.add ((x14_4).toNat * 4)).block, (ad257.add ((x14_4).toNat * 4)).off + 3, none⟩ = some (.bool ((rd_T88 t254 x14_4).f3)) ∧ w'.cell? (ad257.add ((x10_2).toNat * 4)) = some (.int .i64 ((rd_T88 t254 x10_2).f0)) ∧ w'.cell? ⟨(ad257.add ((x10_2).toNat * 4)).block, (ad257.add ((x10_2).toNat * 4)).off + 1, none⟩ = some (.int .i64 ((rd_T88 t254 x10_2).f1)) ∧ w'.cell? ⟨(ad257.add ((x10_2).toNat * 4)).block, (ad257.add ((x10_2).toNat * 4)).off + 2, none⟩ = some (.int .i64 ((rd_T88 t254 x10_2).f2)) ∧ w'.cell? ⟨(ad257.add ((x10_2).toNat * 4)).block, (ad257.add ((x10_2).toNat * 4)).off + 3, none⟩ = some (.bool ((rd_T88 t254 x10_2).f3)) ∧ w'.cell? (ad257.add ((x14_4).toNat * 4)) = some (.int .i64 ((rd_T88 t254 x14_4).f0)) ∧ w'.cell? ⟨(ad257.add ((x14_4).toNat * 4)).block, (ad257.add ((x14_4).toNat * 4)).off + 1, none⟩ = some (.int .i64 ((rd_T88 t254 x14_4).f1)) ∧ w'.cell? ⟨(ad257.add ((x14_4).toNat * 4)).block, (ad257.add ((x14_4).toNat * 4)).off + 2, none⟩ = some (.int .i64 ((rd_T88 t254 x14_4).f2)) ∧ w'.cell? ⟨(ad257.add ((x14_4).toNat * 4)).block, (ad257.add ((x14_4).toNat * 4)).off + 3, none⟩ = some (.bool ((rd_T88 t254 x14_4).f3)) ∧ w'.cell? (ad257.add ((x10_2).toNat * 4)) = some (.int .i64 ((rd_T88 t254 x10_2).f0)) ∧ w'.cell? ⟨(ad257.add ((x10_2).toNat * 4)).block, (ad257.add ((x10_2).toNat * 4)).off + 1, none⟩ = some (.int .i64 ((rd_T88 t254 x10_2).f1)) ∧ w'.cell? ⟨(ad257.add ((x10_2).toNat * 4)).block, (ad257.add ((x10_2).toNat * 4)).off + 2, none⟩ = some (.int .i64 ((rd_T88 t254 x10_2).f2)) ∧ w'.cell? ⟨(ad257.add ((x10_2).toNat * 4)).block, (ad257.add ((x10_2).toNat * 4)).off + 3, none⟩ = some (.bool ((rd_T88 t254 x10_2).f3))) (ds := []) #[false, false, false, false, false, false, false, false, false, false, false, false, false, false, false, false, false, false, false, false, false, false, false, false, false, false, false, false, false, false, false, false, false, false, false, false, false, false, false, false, false, false, false, false, false, false, false, false, false, false, false, false, false, false] (by kernel_rfl) rfl rfl ⟨hx267_0, hx267_1, hx267_2, hx267_3, hx268_0, hx268_1, hx268_2, hx268_3, hx269_0, hx269_1, hx269_2, hx269_3, hx270_0, hx270_1, hx270_2, hx270_3⟩ (fun hHeld => ?_); refine with_tabW gampref01_Folds.tab16 gampref01_Folds.bits16 (fun HT_ HW_ => ?_)
                        generalize wr.drew = w69 at HO_7 HO_8 HO_9 HB hx267_0 hx267_1 hx267_2 hx267_3 hx268_0 hx268_1 hx268_2 hx268_3 hx269_0 hx269_1 hx269_2 hx269_3 hx270_0 hx270_1 hx270_2 hx270_3 hHeld ⊢
                        refine pr 0 86 HT_ ?_
                        refine pr 1 87 HT_ ?_
                        refine pr 2 88 HT_ ?_
                        refine pr 3 89 HT_ ?_
                        refine pr 4 90 HT_ ?_
                        refine pr 5 91 HT_ ?_
                        refine pr 6 92 HT_ ?_
                        refine pr 7 93 HT_ ?_
                        refine pr 9 95 HT_ ?_
                        refine pr 10 96 HT_ ?_
                        refine pr 11 97 HT_ ?_
                        refine pr 12 98 HT_ ?_
                        refine tr 8 94 HT_ HW_ hHeld ?_
                        refine tr 13 99 HT_ HW_ hHeld ?_
                        refine pr 14 100 HT_ ?_
                        refine pr 15 101 HT_ ?_
                        refine pr 16 102 HT_ ?_
                        refine pr 17 103 HT_ ?_
                        refine pr 18 104 HT_ ?_
                        refine pr 19 105 HT_ ?_
                        refine pr 20 106 HT_ ?_
                        refine pr 22 108 HT_ ?_
                        refine pr 23 109 HT_ ?_
                        refine pr 24 110 HT_ ?_
                        refine pr 25 111 HT_ ?_
                        refine tr 21 107 HT_ HW_ hHeld ?_
                        refine tr 26 112 HT_ HW_ hHeld ?_
                        refine pr 27 113 HT_ ?_
                        refine pr 28 114 HT_ ?_
                        refine pr 29 115 HT_ ?_
                        refine pure_ (i := 30) (N := some 116) (v := undef) (a' := ?_) #[true, true, true, true, true, true, true, true, true, true, true, true, true, true, true, true, true, true, true, true, true, true, true, true, true, true, true, true, true, true, true, false, false, false, false, false, false, false, false, false, false, false, false, false, false, false, false, false, false, false, false, false, false, false] rfl rfl (any_of HT_.out (by kernel_rfl)) (fun _ _ _ h => h) (Or.inr ⟨by rfl, rfl⟩) ?_ ?_
                        rotate_left
                        ·simp only [Act.put, List.setIfInBounds_toArray, List.set_cons_zero, List.set_cons_succ, i64_w, i32_w]
                         rfl
                        refine pure_ (i := 31) (N := some 117) (v := undef) (a' := ?_) #[true, true, true, true, true, true, true, true, true, true, true, true, true, true, true, true, true, true, true, true, true, true, true, true, true, true, true, true, true, true, true, true, false, false, false, false, false, false, false, false, false, false, false, false, false, false, false, false, false, false, false, false, false, false] rfl rfl (any_of HT_.out (by kernel_rfl)) (fun _ _ _ h => h) (Or.inr ⟨by rfl, rfl⟩) ?_ ?_
                        rotate_left
                        ·simp only [Act.put, List.setIfInBounds_toArray, List.set_cons_zero, List.set_cons_succ, i64_w, i32_w]
                         rfl
                        refine pure_ (i := 32) (N := some 118) (v := undef) (a' := ?_) #[true, true, true, true, true, true, true, true, true, true, true, true, true, true, true, true, true, true, true, true, true, true, true, true, true, true, true, true, true, true, true, true, true, false, false, false, false, false, false, false, false, false, false, false, false, false, false, false, false, false, false, false, false, false] rfl rfl (any_of HT_.out (by kernel_rfl)) (fun _ _ _ h => h) (Or.inr ⟨by rfl, rfl⟩) ?_ ?_
                        rotate_left
                        ·simp only [Act.put, List.setIfInBounds_toArray, List.set_cons_zero, List.set_cons_succ, i64_w, i32_w]
                         rfl
                        refine pure_ (i := 33) (N := some 119) (v := undef) (a' := ?_) #[true, true, true, true, true, true, true, true, true, true, true, true, true, true, true, true, true, true, true, true, true, true, true, true, true, true, true, true, true, true, true, true, true, true, false, false, false, false, false, false, false, false, false, false, false, false, false, false, false, false, false, false, false, false] rfl rfl (any_of HT_.out (by kernel_rfl)) (fun _ _ _ h => h) (Or.inr ⟨by rfl, rfl⟩) ?_ ?_
                        rotate_left
                        ·simp only [Act.put, List.setIfInBounds_toArray, List.set_cons_zero, List.set_cons_succ, i64_w, i32_w]
                         rfl
                        refine pure_ (i := 34) (N := some 120) (v := undef) (a' := ?_) #[true, true, true, true, true, true, true, true, true, true, true, true, true, true, true, true, true, true, true, true, true, true, true, true, true, true, true, true, true, true, true, true, true, true, true, false, false, false, false, false, false, false, false, false, false, false, false, false, false, false, false, false, false, false] rfl rfl (any_of HT_.out (by kernel_rfl)) (fun _ _ _ h => h) (Or.inr ⟨by rfl, rfl⟩) ?_ ?_
                        rotate_left
                        ·simp only [Act.put, List.setIfInBounds_toArray, List.set_cons_zero, List.set_cons_succ, i64_w, i32_w]
                         rfl
                        refine pure_ (i := 35) (N := some 121) (v := undef) (a' := ?_) #[true, true, true, true, true, true, true, true, true, true, true, true, true, true, true, true, true, true, true, true, true, true, true, true, true, true, true, true, true, true, true, true, true, true, true, true, false, false, false, false, false, false, false, false, false, false, false, false, false, false, false, false, false, false] rfl rfl (any_of HT_.out (by kernel_rfl)) (fun _ _ _ h => h) (Or.inr ⟨by rfl, rfl⟩) ?_ ?_
                        rotate_left
                        ·simp only [Act.put, List.setIfInBounds_toArray, List.set_cons_zero, List.set_cons_succ, i64_w, i32_w]
                         rfl
                        refine pure_ (i := 36) (N := some 122) (v := undef) (a' := ?_) #[true, true, true, true, true, true, true, true, true, true, true, true, true, true, true, true, true, true, true, true, true, true, true, true, true, true, true, true, true, true, true, true, true, true, true, true, true, false, false, false, false, false, false, false, false, false, false, false, false, false, false, false, false, false] rfl rfl (any_of HT_.out (by kernel_rfl)) (fun _ _ _ h => h) (Or.inr ⟨by rfl, rfl⟩) ?_ ?_
                        rotate_left
                        ·simp only [Act.put, List.setIfInBounds_toArray, List.set_cons_zero, List.set_cons_succ, i64_w, i32_w]
                         rfl
                        refine pure_ (i := 37) (N := some 123) (v := undef) (a' := ?_) #[true, true, true, true, true, true, true, true, true, true, true, true, true, true, true, true, true, true, true, true, true, true, true, true, true, true, true, true, true, true, true, true, true, true, true, true, true, true, false, false, false, false, false, false, false, false, false, false, false, false, false, false, false, false] rfl rfl (any_of HT_.out (by kernel_rfl)) (fun _ _ _ h => h) (Or.inr ⟨by rfl, rfl⟩) ?_ ?_
                        rotate_left
                        ·simp only [Act.put, List.setIfInBounds_toArray, List.set_cons_zero, List.set_cons_succ, i64_w, i32_w]
                         rfl
                        refine pure_ (i := 38) (N := some 124) (v := undef) (a' := ?_) #[true, true, true, true, true, true, true, true, true, true, true, true, true, true, true, true, true, true, true, true, true, true, true, true, true, true, true, true, true, true, true, true, true, true, true, true, true, true, true, false, false, false, false, false, false, false, false, false, false, false, false, false, false, false] rfl rfl (any_of HT_.out (by kernel_rfl)) (fun _ _ _ h => h) (Or.inr ⟨by rfl, rfl⟩) ?_ ?_
                        rotate_left
                        ·simp only [Act.put, List.setIfInBounds_toArray, List.set_cons_zero, List.set_cons_succ, i64_w, i32_w]
                         rfl
                        refine pure_ (i := 39) (N := some 125) (v := undef) (a' := ?_) #[true, true, true, true, true, true, true, true, true, true, true, true, true, true, true, true, true, true, true, true, true, true, true, true, true, true, true, true, true, true, true, true, true, true, true, true, true, true, true, true, false, false, false, false, false, false, false, false, false, false, false, false, false, false] rfl rfl (any_of HT_.out (by kernel_rfl)) (fun _ _ _ h => h) (Or.inr ⟨by rfl, rfl⟩) ?_ ?_
                        rotate_left
                        ·simp only [Act.put, List.setIfInBounds_toArray, List.set_cons_zero, List.set_cons_succ, i64_w, i32_w]
                         rfl
                        refine pure_ (i := 40) (N := some 126) (v := undef) (a' := ?_) #[true, true, true, true, true, true, true, true, true, true, true, true, true, true, true, true, true, true, true, true, true, true, true, true, true, true, true, true, true, true, true, true, true, true, true, true, true, true, true, true, true, false, false, false, false, false, false, false, false, false, false, false, false, false] rfl rfl (any_of HT_.out (by kernel_rfl)) (fun _ _ _ h => h) (Or.inr ⟨by rfl, rfl⟩) ?_ ?_
                        rotate_left
                        ·simp only [Act.put, List.setIfInBounds_toArray, List.set_cons_zero, List.set_cons_succ, i64_w, i32_w]
                         rfl
                        refine pure_ (i := 41) (N := some 127) (v := undef) (a' := ?_) #[true, true, true, true, true, true, true, true, true, true, true, true, true, true, true, true, true, true, true, true, true, true, true, true, true, true, true, true, true, true, true, true, true, true, true, true, true, true, true, true, true, true, false, false, false, false, false, false, false, false, false, false, false, false] rfl rfl (any_of HT_.out (by kernel_rfl)) (fun _ _ _ h => h) (Or.inr ⟨by rfl, rfl⟩) ?_ ?_
                        rotate_left
                        ·simp only [Act.put, List.setIfInBounds_toArray, List.set_cons_zero, List.set_cons_succ, i64_w, i32_w]
                         rfl
                        refine pure_ (i := 42) (N := some 128) (v := undef) (a' := ?_) #[true, true, true, true, true, true, true, true, true, true, true, true, true, true, true, true, true, true, true, true, true, true, true, true, true, true, true, true, true, true, true, true, true, true, true, true, true, true, true, true, true, true, true, false, false, false, false, false, false, false, false, false, false, false] rfl rfl (any_of HT_.out (by kernel_rfl)) (fun _ _ _ h => h) (Or.inr ⟨by rfl, rfl⟩) ?_ ?_
                        rotate_left
                        ·simp only [Act.put, List.setIfInBounds_toArray, List.set_cons_zero, List.set_cons_succ, i64_w, i32_w]
                         rfl
                        refine pure_ (i := 43) (N := some 129) (v := undef) (a' := ?_) #[true, true, true, true, true, true, true, true, true, true, true, true, true, true, true, true, true, true, true, true, true, true, true, true, true, true, true, true, true, true, true, true, true, true, true, true, true, true, true, true, true, true, true, true, false, false, false, false, false, false, false, false, false, false] rfl rfl (any_of HT_.out (by kernel_rfl)) (fun _ _ _ h => h) (Or.inr ⟨by rfl, rfl⟩) ?_ ?_
                        rotate_left
                        ·simp only [Act.put, List.setIfInBounds_toArray, List.set_cons_zero, List.set_cons_succ, i64_w, i32_w]
                         rfl
                        refine pure_ (i := 44) (N := some 130) (v := undef) (a' := ?_) #[true, true, true, true, true, true, true, true, true, true, true, true, true, true, true, true, true, true, true, true, true, true, true, true, true, true, true, true, true, true, true, true, true, true, true, true, true, true, true, true, true, true, true, true, true, false, false, false, false, false, false, false, false, false] rfl rfl (any_of HT_.out (by kernel_rfl)) (fun _ _ _ h => h) (Or.inr ⟨by rfl, rfl⟩) ?_ ?_
                        rotate_left
                        ·simp only [Act.put, List.setIfInBounds_toArray, List.set_cons_zero, List.set_cons_succ, i64_w, i32_w]
                         rfl
                        refine pure_ (i := 45) (N := some 131) (v := undef) (a' := ?_) #[true, true, true, true, true, true, true, true, true, true, true, true, true, true, true, true, true, true, true, true, true, true, true, true, true, true, true, true, true, true, true, true, true, true, true, true, true, true, true, true, true, true, true, true, true, true, false, false, false, false, false, false, false, false] rfl rfl (any_of HT_.out (by kernel_rfl)) (fun _ _ _ h => h) (Or.inr ⟨by rfl, rfl⟩) ?_ ?_
                        rotate_left
                        ·simp only [Act.put, List.setIfInBounds_toArray, List.set_cons_zero, List.set_cons_succ, i64_w, i32_w]
                         rfl
                        refine pure_ (i := 46) (N := some 132) (v := undef) (a' := ?_) #[true, true, true, true, true, true, true, true, true, true, true, true, true, true, true, true, true, true, true, true, true, true, true, true, true, true, true, true, true, true, true, true, true, true, true, true, true, true, true, true, true, true, true, true, true, true, true, false, false, false, false, false, false, false] rfl rfl (any_of HT_.out (by kernel_rfl)) (fun _ _ _ h => h) (Or.inr ⟨by rfl, rfl⟩) ?_ ?_
                        rotate_left
                        ·simp only [Act.put, List.setIfInBounds_toArray, List.set_cons_zero, List.set_cons_succ, i64_w, i32_w]
                         rfl
                        refine pure_ (i := 47) (N := some 133) (v := undef) (a' := ?_) #[true, true, true, true, true, true, true, true, true, true, true, true, true, true, true, true, true, true, true, true, true, true, true, true, true, true, true, true, true, true, true, true, true, true, true, true, true, true, true, true, true, true, true, true, true, true, true, true, false, false, false, false, false, false] rfl rfl (any_of HT_.out (by kernel_rfl)) (fun _ _ _ h => h) (Or.inr ⟨by rfl, rfl⟩) ?_ ?_
                        rotate_left
                        ·simp only [Act.put, List.setIfInBounds_toArray, List.set_cons_zero, List.set_cons_succ, i64_w, i32_w]
                         rfl
                        refine pure_ (i := 48) (N := some 134) (v := undef) (a' := ?_) #[true, true, true, true, true, true, true, true, true, true, true, true, true, true, true, true, true, true, true, true, true, true, true, true, true, true, true, true, true, true, true, true, true, true, true, true, true, true, true, true, true, true, true, true, true, true, true, true, true, false, false, false, false, false] rfl rfl (any_of HT_.out (by kernel_rfl)) (fun _ _ _ h => h) (Or.inr ⟨by rfl, rfl⟩) ?_ ?_
                        rotate_left
                        ·simp only [Act.put, List.setIfInBounds_toArray, List.set_cons_zero, List.set_cons_succ, i64_w, i32_w]
                         rfl
                        refine pure_ (i := 49) (N := some 135) (v := undef) (a' := ?_) #[true, true, true, true, true, true, true, true, true, true, true, true, true, true, true, true, true, true, true, true, true, true, true, true, true, true, true, true, true, true, true, true, true, true, true, true, true, true, true, true, true, true, true, true, true, true, true, true, true, true, false, false, false, false] rfl rfl (any_of HT_.out (by kernel_rfl)) (fun _ _ _ h => h) (Or.inr ⟨by rfl, rfl⟩) ?_ ?_
                        rotate_left
                        ·simp only [Act.put, List.setIfInBounds_toArray, List.set_cons_zero, List.set_cons_succ, i64_w, i32_w]
                         rfl
                        refine pure_ (i := 50) (N := some 136) (v := undef) (a' := ?_) #[true, true, true, true, true, true, true, true, true, true, true, true, true, true, true, true, true, true, true, true, true, true, true, true, true, true, true, true, true, true, true, true, true, true, true, true, true, true, true, true, true, true, true, true, true, true, true, true, true, true, true, false, false, false] rfl rfl (any_of HT_.out (by kernel_rfl)) (fun _ _ _ h => h) (Or.inr ⟨by rfl, rfl⟩) ?_ ?_
                        rotate_left
                        ·simp only [Act.put, List.setIfInBounds_toArray, List.set_cons_zero, List.set_cons_succ, i64_w, i32_w]
                         rfl
                        refine pure_ (i := 51) (N := some 137) (v := undef) (a' := ?_) #[true, true, true, true, true, true, true, true, true, true, true, true, true, true, true, true, true, true, true, true, true, true, true, true, true, true, true, true, true, true, true, true, true, true, true, true, true, true, true, true, true, true, true, true, true, true, true, true, true, true, true, true, false, false] rfl rfl (any_of HT_.out (by kernel_rfl)) (fun _ _ _ h => h) (Or.inr ⟨by rfl, rfl⟩) ?_ ?_
                        rotate_left
                        ·simp only [Act.put, List.setIfInBounds_toArray, List.set_cons_zero, List.set_cons_succ, i64_w, i32_w]
                         rfl
                        refine pure_ (i := 52) (N := some 138) (v := undef) (a' := ?_) #[true, true, true, true, true, true, true, true, true, true, true, true, true, true, true, true, true, true, true, true, true, true, true, true, true, true, true, true, true, true, true, true, true, true, true, true, true, true, true, true, true, true, true, true, true, true, true, true, true, true, true, true, true, false] rfl rfl (any_of HT_.out (by kernel_rfl)) (fun _ _ _ h => h) (Or.inr ⟨by rfl, rfl⟩) ?_ ?_
                        rotate_left
                        ·simp only [Act.put, List.setIfInBounds_toArray, List.set_cons_zero, List.set_cons_succ, i64_w, i32_w]
                         rfl
                        refine pr 53 139 HT_ ?_
                        refine dn HT_ ?_
                        try go_wp2
                        go_roundg k4
                        case measure => have := HJ3.out; have := HK2.out; have := HK3.out; have := HK4.out; omega
                        case rel => exact ⟨(wrap64 (x14_4 + 1)), (by first | rfl | (simp; done) | (simp [*]; done)), H', ⟨by have := HJ3.out; have := HK2.out; have := HK3.out; have := HK4.out; omega⟩, ⟨rl HO_7⟩, ⟨rl HO_8⟩, ⟨rl HO_9⟩, ⟨bl HB⟩⟩
                      ·rw [if_neg c54] at H
                       have c54b0 : (((rd_T88 t254 x14_4).f0) == ((rd_T88 t254 x10_2).f0)) = false := beq_eq_false_iff_ne.mpr c54
                       have c54b1 : (((rd_T88 t254 x14_4).f0) != ((rd_T88 t254 x10_2).f0)) = true := bne_iff_ne.mpr c54
                       have H' := Aside0.mk H
                       clear H
                       try go_wp2
                       have n0_ := Aside0.mk (Kd.R_drew HO_7.out)
                       have n1_ := Aside0.mk (Kd.R_drew HO_8.out)
                       have n2_ := Aside0.mk (Kd.R_drew HO_9.out)
                       have n3_ := Aside0.mk (below_drew1 HB.out)
                       clear HO_7
                       clear HO_8
                       clear HO_9
                       clear HB
                       have HO_7 := n0_
                       have HO_8 := n1_
                       have HO_9 := n2_
                       have HB := n3_
                       clear n0_ n1_ n2_ n3_
                       have p267 : 0 ≤ (x14_4 : Int) := ofd
                       have q267 : x14_4 < (t254.length : Int) := ofd
                       obtain ⟨ad267, e267, hx267_0, hx267_1, hx267_2, hx267_3⟩ := at_T88 (Kd.R_reads' HO_9.out).2.2 x14_4 p267 q267
                       obtain rfl : ad257 = ad267 := (by injection e267)
                       replace p267 := eq_true p267
                       replace q267 := eq_true q267
                       have p268 : 0 ≤ (x10_2 : Int) := ofd
                       have q268 : x10_2 < (t254.length : Int) := ofd
                       obtain ⟨ad268, e268, hx268_0, hx268_1, hx268_2, hx268_3⟩ := at_T88 (Kd.R_reads' HO_9.out).2.2 x10_2 p268 q268
                       obtain rfl : ad257 = ad268 := (by injection e268)
                       replace p268 := eq_true p268
                       replace q268 := eq_true q268
                       refine start_ (n := 54) (S := fun w' => w'.cell? (ad257.add ((x14_4).toNat * 4)) = some (.int .i64 ((rd_T88 t254 x14_4).f0)) ∧ w'.cell? ⟨(ad257.add ((x14_4).toNat * 4)).block, (ad257.add ((x14_4).toNat * 4)).off + 1, none⟩ = some (.int .i64 ((rd_T88 t254 x14_4).f1)) ∧ w'.cell? ⟨(ad257.add ((x14_4).toNat * 4)).block, (ad257.add ((x14_4).toNat * 4)).off + 2, none⟩ = some (.int .i64 ((rd_T88 t254 x14_4).f2)) ∧ w'.cell? ⟨(ad257.add ((x14_4).toNat * 4)).block, (ad257.add ((x14_4).toNat * 4)).off + 3, none⟩ = some (.bool ((rd_T88 t254 x14_4).f3)) ∧ w'.cell? (ad257.add ((x10_2).toNat * 4)) = some (.int .i64 ((rd_T88 t254 x10_2).f0)) ∧ w'.cell? ⟨(ad257.add ((x10_2).toNat * 4)).block, (ad257.add ((x10_2).toNat * 4)).off + 1, none⟩ = some (.int .i64 ((rd_T88 t254 x10_2).f1)) ∧ w'.cell? ⟨(ad257.add ((x10_2).toNat * 4)).block, (ad257.add ((x10_2).toNat * 4)).off + 2, none⟩ = some (.int .i64 ((rd_T88 t254 x10_2).f2)) ∧ w'.cell? ⟨(ad257.add ((x10_2).toNat * 4)).block, (ad257.add ((x10_2).toNat * 4)).off + 3, none⟩ = some (.bool ((rd_T88 t254 x10_2).f3))) (ds := []) #[false, false, false, false, false, false, false, false, false, false, false, false, false, false, false, false, false, false, false, false, false, false, false, false, false, false, false, false, false, false, false, false, false, false, false, false, false, false, false, false, false, false, false, false, false, false, false, false, false, false, false, false, false, false] (by kernel_rfl) rfl rfl ⟨hx267_0, hx267_1, hx267_2, hx267_3, hx268_0, hx268_1, hx268_2, hx268_3⟩ (fun hHeld => ?_); refine with_tabW gampref01_Folds.tab16 gampref01_Folds.bits16 (fun HT_ HW_ => ?_)
                       generalize wr.drew = w70 at HO_7 HO_8 HO_9 HB hx267_0 hx267_1 hx267_2 hx267_3 hx268_0 hx268_1 hx268_2 hx268_3 hHeld ⊢
                       refine pr 0 86 HT_ ?_
                       refine pr 1 87 HT_ ?_
                       refine pr 2 88 HT_ ?_
                       refine pr 3 89 HT_ ?_
                       refine pr 4 90 HT_ ?_
                       refine pr 5 91 HT_ ?_
                       refine pr 6 92 HT_ ?_
                       refine pr 7 93 HT_ ?_
                       refine pr 9 95 HT_ ?_
                       refine pr 10 96 HT_ ?_
                       refine pr 11 97 HT_ ?_
                       refine pr 12 98 HT_ ?_
                       refine tr 8 94 HT_ HW_ hHeld ?_
                       refine tr 13 99 HT_ HW_ hHeld ?_
                       refine pr 14 100 HT_ ?_
                       refine pr 15 101 HT_ ?_
                       refine pr 16 102 HT_ ?_
                       refine pure_ (i := 17) (N := some 103) (v := undef) (a' := ?_) #[true, true, true, true, true, true, true, true, true, true, true, true, true, true, true, true, true, true, false, false, false, false, false, false, false, false, false, false, false, false, false, false, false, false, false, false, false, false, false, false, false, false, false, false, false, false, false, false, false, false, false, false, false, false] rfl rfl (any_of HT_.out (by kernel_rfl)) (fun _ _ _ h => h) (Or.inr ⟨by rfl, rfl⟩) ?_ ?_
                       rotate_left
                       ·simp only [Act.put, List.setIfInBounds_toArray, List.set_cons_zero, List.set_cons_succ, i64_w, i32_w]
                        rfl
                       refine pure_ (i := 18) (N := some 104) (v := undef) (a' := ?_) #[true, true, true, true, true, true, true, true, true, true, true, true, true, true, true, true, true, true, true, false, false, false, false, false, false, false, false, false, false, false, false, false, false, false, false, false, false, false, false, false, false, false, false, false, false, false, false, false, false, false, false, false, false, false] rfl rfl (any_of HT_.out (by kernel_rfl)) (fun _ _ _ h => h) (Or.inr ⟨by rfl, rfl⟩) ?_ ?_
                       rotate_left
                       ·simp only [Act.put, List.setIfInBounds_toArray, List.set_cons_zero, List.set_cons_succ, i64_w, i32_w]
                        rfl
                       refine pure_ (i := 19) (N := some 105) (v := undef) (a' := ?_) #[true, true, true, true, true, true, true, true, true, true, true, true, true, true, true, true, true, true, true, true, false, false, false, false, false, false, false, false, false, false, false, false, false, false, false, false, false, false, false, false, false, false, false, false, false, false, false, false, false, false, false, false, false, false] rfl rfl (any_of HT_.out (by kernel_rfl)) (fun _ _ _ h => h) (Or.inr ⟨by rfl, rfl⟩) ?_ ?_
                       rotate_left
                       ·simp only [Act.put, List.setIfInBounds_toArray, List.set_cons_zero, List.set_cons_succ, i64_w, i32_w]
                        rfl
                       refine pure_ (i := 20) (N := some 106) (v := undef) (a' := ?_) #[true, true, true, true, true, true, true, true, true, true, true, true, true, true, true, true, true, true, true, true, true, false, false, false, false, false, false, false, false, false, false, false, false, false, false, false, false, false, false, false, false, false, false, false, false, false, false, false, false, false, false, false, false, false] rfl rfl (any_of HT_.out (by kernel_rfl)) (fun _ _ _ h => h) (Or.inr ⟨by rfl, rfl⟩) ?_ ?_
                       rotate_left
                       ·simp only [Act.put, List.setIfInBounds_toArray, List.set_cons_zero, List.set_cons_succ, i64_w, i32_w]
                        rfl
                       refine pure_ (i := 21) (N := some 107) (v := undef) (a' := ?_) #[true, true, true, true, true, true, true, true, true, true, true, true, true, true, true, true, true, true, true, true, true, true, false, false, false, false, false, false, false, false, false, false, false, false, false, false, false, false, false, false, false, false, false, false, false, false, false, false, false, false, false, false, false, false] rfl rfl (any_of HT_.out (by kernel_rfl)) (fun _ _ _ h => h) (Or.inr ⟨by rfl, rfl⟩) ?_ ?_
                       rotate_left
                       ·simp only [Act.put, List.setIfInBounds_toArray, List.set_cons_zero, List.set_cons_succ, i64_w, i32_w]
                        rfl
                       refine pure_ (i := 22) (N := some 108) (v := undef) (a' := ?_) #[true, true, true, true, true, true, true, true, true, true, true, true, true, true, true, true, true, true, true, true, true, true, true, false, false, false, false, false, false, false, false, false, false, false, false, false, false, false, false, false, false, false, false, false, false, false, false, false, false, false, false, false, false, false] rfl rfl (any_of HT_.out (by kernel_rfl)) (fun _ _ _ h => h) (Or.inr ⟨by rfl, rfl⟩) ?_ ?_
                       rotate_left
                       ·simp only [Act.put, List.setIfInBounds_toArray, List.set_cons_zero, List.set_cons_succ, i64_w, i32_w]
                        rfl
                       refine pure_ (i := 23) (N := some 109) (v := undef) (a' := ?_) #[true, true, true, true, true, true, true, true, true, true, true, true, true, true, true, true, true, true, true, true, true, true, true, true, false, false, false, false, false, false, false, false, false, false, false, false, false, false, false, false, false, false, false, false, false, false, false, false, false, false, false, false, false, false] rfl rfl (any_of HT_.out (by kernel_rfl)) (fun _ _ _ h => h) (Or.inr ⟨by rfl, rfl⟩) ?_ ?_
                       rotate_left
                       ·simp only [Act.put, List.setIfInBounds_toArray, List.set_cons_zero, List.set_cons_succ, i64_w, i32_w]
                        rfl
                       refine pure_ (i := 24) (N := some 110) (v := undef) (a' := ?_) #[true, true, true, true, true, true, true, true, true, true, true, true, true, true, true, true, true, true, true, true, true, true, true, true, true, false, false, false, false, false, false, false, false, false, false, false, false, false, false, false, false, false, false, false, false, false, false, false, false, false, false, false, false, false] rfl rfl (any_of HT_.out (by kernel_rfl)) (fun _ _ _ h => h) (Or.inr ⟨by rfl, rfl⟩) ?_ ?_
                       rotate_left
                       ·simp only [Act.put, List.setIfInBounds_toArray, List.set_cons_zero, List.set_cons_succ, i64_w, i32_w]
                        rfl
                       refine pure_ (i := 25) (N := some 111) (v := undef) (a' := ?_) #[true, true, true, true, true, true, true, true, true, true, true, true, true, true, true, true, true, true, true, true, true, true, true, true, true, true, false, false, false, false, false, false, false, false, false, false, false, false, false, false, false, false, false, false, false, false, false, false, false, false, false, false, false, false] rfl rfl (any_of HT_.out (by kernel_rfl)) (fun _ _ _ h => h) (Or.inr ⟨by rfl, rfl⟩) ?_ ?_
                       rotate_left
                       ·simp only [Act.put, List.setIfInBounds_toArray, List.set_cons_zero, List.set_cons_succ, i64_w, i32_w]
                        rfl
                       refine pure_ (i := 26) (N := some 112) (v := undef) (a' := ?_) #[true, true, true, true, true, true, true, true, true, true, true, true, true, true, true, true, true, true, true, true, true, true, true, true, true, true, true, false, false, false, false, false, false, false, false, false, false, false, false, false, false, false, false, false, false, false, false, false, false, false, false, false, false, false] rfl rfl (any_of HT_.out (by kernel_rfl)) (fun _ _ _ h => h) (Or.inr ⟨by rfl, rfl⟩) ?_ ?_
                       rotate_left
                       ·simp only [Act.put, List.setIfInBounds_toArray, List.set_cons_zero, List.set_cons_succ, i64_w, i32_w]
                        rfl
                       refine pure_ (i := 27) (N := some 113) (v := undef) (a' := ?_) #[true, true, true, true, true, true, true, true, true, true, true, true, true, true, true, true, true, true, true, true, true, true, true, true, true, true, true, true, false, false, false, false, false, false, false, false, false, false, false, false, false, false, false, false, false, false, false, false, false, false, false, false, false, false] rfl rfl (any_of HT_.out (by kernel_rfl)) (fun _ _ _ h => h) (Or.inr ⟨by rfl, rfl⟩) ?_ ?_
                       rotate_left
                       ·simp only [Act.put, List.setIfInBounds_toArray, List.set_cons_zero, List.set_cons_succ, i64_w, i32_w]
                        rfl
                       refine pr 28 114 HT_ ?_
                       refine pr 29 115 HT_ ?_
                       refine pure_ (i := 30) (N := some 116) (v := undef) (a' := ?_) #[true, true, true, true, true, true, true, true, true, true, true, true, true, true, true, true, true, true, true, true, true, true, true, true, true, true, true, true, true, true, true, false, false, false, false, false, false, false, false, false, false, false, false, false, false, false, false, false, false, false, false, false, false, false] rfl rfl (any_of HT_.out (by kernel_rfl)) (fun _ _ _ h => h) (Or.inr ⟨by rfl, rfl⟩) ?_ ?_
                       rotate_left
                       ·simp only [Act.put, List.setIfInBounds_toArray, List.set_cons_zero, List.set_cons_succ, i64_w, i32_w]
                        rfl
                       refine pure_ (i := 31) (N := some 117) (v := undef) (a' := ?_) #[true, true, true, true, true, true, true, true, true, true, true, true, true, true, true, true, true, true, true, true, true, true, true, true, true, true, true, true, true, true, true, true, false, false, false, false, false, false, false, false, false, false, false, false, false, false, false, false, false, false, false, false, false, false] rfl rfl (any_of HT_.out (by kernel_rfl)) (fun _ _ _ h => h) (Or.inr ⟨by rfl, rfl⟩) ?_ ?_
                       rotate_left
                       ·simp only [Act.put, List.setIfInBounds_toArray, List.set_cons_zero, List.set_cons_succ, i64_w, i32_w]
                        rfl
                       refine pure_ (i := 32) (N := some 118) (v := undef) (a' := ?_) #[true, true, true, true, true, true, true, true, true, true, true, true, true, true, true, true, true, true, true, true, true, true, true, true, true, true, true, true, true, true, true, true, true, false, false, false, false, false, false, false, false, false, false, false, false, false, false, false, false, false, false, false, false, false] rfl rfl (any_of HT_.out (by kernel_rfl)) (fun _ _ _ h => h) (Or.inr ⟨by rfl, rfl⟩) ?_ ?_
                       rotate_left
                       ·simp only [Act.put, List.setIfInBounds_toArray, List.set_cons_zero, List.set_cons_succ, i64_w, i32_w]
                        rfl
                       refine pure_ (i := 33) (N := some 119) (v := undef) (a' := ?_) #[true, true, true, true, true, true, true, true, true, true, true, true, true, true, true, true, true, true, true, true, true, true, true, true, true, true, true, true, true, true, true, true, true, true, false, false, false, false, false, false, false, false, false, false, false, false, false, false, false, false, false, false, false, false] rfl rfl (any_of HT_.out (by kernel_rfl)) (fun _ _ _ h => h) (Or.inr ⟨by rfl, rfl⟩) ?_ ?_
                       rotate_left
                       ·simp only [Act.put, List.setIfInBounds_toArray, List.set_cons_zero, List.set_cons_succ, i64_w, i32_w]
                        rfl
                       refine pure_ (i := 34) (N := some 120) (v := undef) (a' := ?_) #[true, true, true, true, true, true, true, true, true, true, true, true, true, true, true, true, true, true, true, true, true, true, true, true, true, true, true, true, true, true, true, true, true, true, true, false, false, false, false, false, false, false, false, false, false, false, false, false, false, false, false, false, false, false] rfl rfl (any_of HT_.out (by kernel_rfl)) (fun _ _ _ h => h) (Or.inr ⟨by rfl, rfl⟩) ?_ ?_
                       rotate_left
                       ·simp only [Act.put, List.setIfInBounds_toArray, List.set_cons_zero, List.set_cons_succ, i64_w, i32_w]
                        rfl
                       refine pure_ (i := 35) (N := some 121) (v := undef) (a' := ?_) #[true, true, true, true, true, true, true, true, true, true, true, true, true, true, true, true, true, true, true, true, true, true, true, true, true, true, true, true, true, true, true, true, true, true, true, true, false, false, false, false, false, false, false, false, false, false, false, false, false, false, false, false, false, false] rfl rfl (any_of HT_.out (by kernel_rfl)) (fun _ _ _ h => h) (Or.inr ⟨by rfl, rfl⟩) ?_ ?_
                       rotate_left
                       ·simp only [Act.put, List.setIfInBounds_toArray, List.set_cons_zero, List.set_cons_succ, i64_w, i32_w]
                        rfl
                       refine pure_ (i := 36) (N := some 122) (v := undef) (a' := ?_) #[true, true, true, true, true, true, true, true, true, true, true, true, true, true, true, true, true, true, true, true, true, true, true, true, true, true, true, true, true, true, true, true, true, true, true, true, true, false, false, false, false, false, false, false, false, false, false, false, false, false, false, false, false, false] rfl rfl (any_of HT_.out (by kernel_rfl)) (fun _ _ _ h => h) (Or.inr ⟨by rfl, rfl⟩) ?_ ?_
                       rotate_left
                       ·simp only [Act.put, List.setIfInBounds_toArray, List.set_cons_zero, List.set_cons_succ, i64_w, i32_w]
                        rfl
                       refine pure_ (i := 37) (N := some 123) (v := undef) (a' := ?_) #[true, true, true, true, true, true, true, true, true, true, true, true, true, true, true, true, true, true, true, true, true, true, true, true, true, true, true, true, true, true, true, true, true, true, true, true, true, true, false, false, false, false, false, false, false, false, false, false, false, false, false, false, false, false] rfl rfl (any_of HT_.out (by kernel_rfl)) (fun _ _ _ h => h) (Or.inr ⟨by rfl, rfl⟩) ?_ ?_
                       rotate_left
                       ·simp only [Act.put, List.setIfInBounds_toArray, List.set_cons_zero, List.set_cons_succ, i64_w, i32_w]
                        rfl
                       refine pure_ (i := 38) (N := some 124) (v := undef) (a' := ?_) #[true, true, true, true, true, true, true, true, true, true, true, true, true, true, true, true, true, true, true, true, true, true, true, true, true, true, true, true, true, true, true, true, true, true, true, true, true, true, true, false, false, false, false, false, false, false, false, false, false, false, false, false, false, false] rfl rfl (any_of HT_.out (by kernel_rfl)) (fun _ _ _ h => h) (Or.inr ⟨by rfl, rfl⟩) ?_ ?_
                       rotate_left
                       ·simp only [Act.put, List.setIfInBounds_toArray, List.set_cons_zero, List.set_cons_succ, i64_w, i32_w]
                        rfl
                       refine pure_ (i := 39) (N := some 125) (v := undef) (a' := ?_) #[true, true, true, true, true, true, true, true, true, true, true, true, true, true, true, true, true, true, true, true, true, true, true, true, true, true, true, true, true, true, true, true, true, true, true, true, true, true, true, true, false, false, false, false, false, false, false, false, false, false, false, false, false, false] rfl rfl (any_of HT_.out (by kernel_rfl)) (fun _ _ _ h => h) (Or.inr ⟨by rfl, rfl⟩) ?_ ?_
                       rotate_left
                       ·simp only [Act.put, List.setIfInBounds_toArray, List.set_cons_zero, List.set_cons_succ, i64_w, i32_w]
                        rfl
                       refine pure_ (i := 40) (N := some 126) (v := undef) (a' := ?_) #[true, true, true, true, true, true, true, true, true, true, true, true, true, true, true, true, true, true, true, true, true, true, true, true, true, true, true, true, true, true, true, true, true, true, true, true, true, true, true, true, true, false, false, false, false, false, false, false, false, false, false, false, false, false] rfl rfl (any_of HT_.out (by kernel_rfl)) (fun _ _ _ h => h) (Or.inr ⟨by rfl, rfl⟩) ?_ ?_
                       rotate_left
                       ·simp only [Act.put, List.setIfInBounds_toArray, List.set_cons_zero, List.set_cons_succ, i64_w, i32_w]
                        rfl
                       refine pure_ (i := 41) (N := some 127) (v := undef) (a' := ?_) #[true, true, true, true, true, true, true, true, true, true, true, true, true, true, true, true, true, true, true, true, true, true, true, true, true, true, true, true, true, true, true, true, true, true, true, true, true, true, true, true, true, true, false, false, false, false, false, false, false, false, false, false, false, false] rfl rfl (any_of HT_.out (by kernel_rfl)) (fun _ _ _ h => h) (Or.inr ⟨by rfl, rfl⟩) ?_ ?_
                       rotate_left
                       ·simp only [Act.put, List.setIfInBounds_toArray, List.set_cons_zero, List.set_cons_succ, i64_w, i32_w]
                        rfl
                       refine pure_ (i := 42) (N := some 128) (v := undef) (a' := ?_) #[true, true, true, true, true, true, true, true, true, true, true, true, true, true, true, true, true, true, true, true, true, true, true, true, true, true, true, true, true, true, true, true, true, true, true, true, true, true, true, true, true, true, true, false, false, false, false, false, false, false, false, false, false, false] rfl rfl (any_of HT_.out (by kernel_rfl)) (fun _ _ _ h => h) (Or.inr ⟨by rfl, rfl⟩) ?_ ?_
                       rotate_left
                       ·simp only [Act.put, List.setIfInBounds_toArray, List.set_cons_zero, List.set_cons_succ, i64_w, i32_w]
                        rfl
                       refine pure_ (i := 43) (N := some 129) (v := undef) (a' := ?_) #[true, true, true, true, true, true, true, true, true, true, true, true, true, true, true, true, true, true, true, true, true, true, true, true, true, true, true, true, true, true, true, true, true, true, true, true, true, true, true, true, true, true, true, true, false, false, false, false, false, false, false, false, false, false] rfl rfl (any_of HT_.out (by kernel_rfl)) (fun _ _ _ h => h) (Or.inr ⟨by rfl, rfl⟩) ?_ ?_
                       rotate_left
                       ·simp only [Act.put, List.setIfInBounds_toArray, List.set_cons_zero, List.set_cons_succ, i64_w, i32_w]
                        rfl
                       refine pure_ (i := 44) (N := some 130) (v := undef) (a' := ?_) #[true, true, true, true, true, true, true, true, true, true, true, true, true, true, true, true, true, true, true, true, true, true, true, true, true, true, true, true, true, true, true, true, true, true, true, true, true, true, true, true, true, true, true, true, true, false, false, false, false, false, false, false, false, false] rfl rfl (any_of HT_.out (by kernel_rfl)) (fun _ _ _ h => h) (Or.inr ⟨by rfl, rfl⟩) ?_ ?_
                       rotate_left
                       ·simp only [Act.put, List.setIfInBounds_toArray, List.set_cons_zero, List.set_cons_succ, i64_w, i32_w]
                        rfl
                       refine pure_ (i := 45) (N := some 131) (v := undef) (a' := ?_) #[true, true, true, true, true, true, true, true, true, true, true, true, true, true, true, true, true, true, true, true, true, true, true, true, true, true, true, true, true, true, true, true, true, true, true, true, true, true, true, true, true, true, true, true, true, true, false, false, false, false, false, false, false, false] rfl rfl (any_of HT_.out (by kernel_rfl)) (fun _ _ _ h => h) (Or.inr ⟨by rfl, rfl⟩) ?_ ?_
                       rotate_left
                       ·simp only [Act.put, List.setIfInBounds_toArray, List.set_cons_zero, List.set_cons_succ, i64_w, i32_w]
                        rfl
                       refine pure_ (i := 46) (N := some 132) (v := undef) (a' := ?_) #[true, true, true, true, true, true, true, true, true, true, true, true, true, true, true, true, true, true, true, true, true, true, true, true, true, true, true, true, true, true, true, true, true, true, true, true, true, true, true, true, true, true, true, true, true, true, true, false, false, false, false, false, false, false] rfl rfl (any_of HT_.out (by kernel_rfl)) (fun _ _ _ h => h) (Or.inr ⟨by rfl, rfl⟩) ?_ ?_
                       rotate_left
                       ·simp only [Act.put, List.setIfInBounds_toArray, List.set_cons_zero, List.set_cons_succ, i64_w, i32_w]
                        rfl
                       refine pure_ (i := 47) (N := some 133) (v := undef) (a' := ?_) #[true, true, true, true, true, true, true, true, true, true, true, true, true, true, true, true, true, true, true, true, true, true, true, true, true, true, true, true, true, true, true, true, true, true, true, true, true, true, true, true, true, true, true, true, true, true, true, true, false, false, false, false, false, false] rfl rfl (any_of HT_.out (by kernel_rfl)) (fun _ _ _ h => h) (Or.inr ⟨by rfl, rfl⟩) ?_ ?_
                       rotate_left
                       ·simp only [Act.put, List.setIfInBounds_toArray, List.set_cons_zero, List.set_cons_succ, i64_w, i32_w]
                        rfl
                       refine pure_ (i := 48) (N := some 134) (v := undef) (a' := ?_) #[true, true, true, true, true, true, true, true, true, true, true, true, true, true, true, true, true, true, true, true, true, true, true, true, true, true, true, true, true, true, true, true, true, true, true, true, true, true, true, true, true, true, true, true, true, true, true, true, true, false, false, false, false, false] rfl rfl (any_of HT_.out (by kernel_rfl)) (fun _ _ _ h => h) (Or.inr ⟨by rfl, rfl⟩) ?_ ?_
                       rotate_left
                       ·simp only [Act.put, List.setIfInBounds_toArray, List.set_cons_zero, List.set_cons_succ, i64_w, i32_w]
                        rfl
                       refine pure_ (i := 49) (N := some 135) (v := undef) (a' := ?_) #[true, true, true, true, true, true, true, true, true, true, true, true, true, true, true, true, true, true, true, true, true, true, true, true, true, true, true, true, true, true, true, true, true, true, true, true, true, true, true, true, true, true, true, true, true, true, true, true, true, true, false, false, false, false] rfl rfl (any_of HT_.out (by kernel_rfl)) (fun _ _ _ h => h) (Or.inr ⟨by rfl, rfl⟩) ?_ ?_
                       rotate_left
                       ·simp only [Act.put, List.setIfInBounds_toArray, List.set_cons_zero, List.set_cons_succ, i64_w, i32_w]
                        rfl
                       refine pure_ (i := 50) (N := some 136) (v := undef) (a' := ?_) #[true, true, true, true, true, true, true, true, true, true, true, true, true, true, true, true, true, true, true, true, true, true, true, true, true, true, true, true, true, true, true, true, true, true, true, true, true, true, true, true, true, true, true, true, true, true, true, true, true, true, true, false, false, false] rfl rfl (any_of HT_.out (by kernel_rfl)) (fun _ _ _ h => h) (Or.inr ⟨by rfl, rfl⟩) ?_ ?_
                       rotate_left
                       ·simp only [Act.put, List.setIfInBounds_toArray, List.set_cons_zero, List.set_cons_succ, i64_w, i32_w]
                        rfl
                       refine pure_ (i := 51) (N := some 137) (v := undef) (a' := ?_) #[true, true, true, true, true, true, true, true, true, true, true, true, true, true, true, true, true, true, true, true, true, true, true, true, true, true, true, true, true, true, true, true, true, true, true, true, true, true, true, true, true, true, true, true, true, true, true, true, true, true, true, true, false, false] rfl rfl (any_of HT_.out (by kernel_rfl)) (fun _ _ _ h => h) (Or.inr ⟨by rfl, rfl⟩) ?_ ?_
                       rotate_left
                       ·simp only [Act.put, List.setIfInBounds_toArray, List.set_cons_zero, List.set_cons_succ, i64_w, i32_w]
                        rfl
                       refine pure_ (i := 52) (N := some 138) (v := undef) (a' := ?_) #[true, true, true, true, true, true, true, true, true, true, true, true, true, true, true, true, true, true, true, true, true, true, true, true, true, true, true, true, true, true, true, true, true, true, true, true, true, true, true, true, true, true, true, true, true, true, true, true, true, true, true, true, true, false] rfl rfl (any_of HT_.out (by kernel_rfl)) (fun _ _ _ h => h) (Or.inr ⟨by rfl, rfl⟩) ?_ ?_
                       rotate_left
                       ·simp only [Act.put, List.setIfInBounds_toArray, List.set_cons_zero, List.set_cons_succ, i64_w, i32_w]
                        rfl
                       refine pr 53 139 HT_ ?_
                       refine dn HT_ ?_
                       try go_wp2
                       go_roundg k4
                       case measure => have := HJ3.out; have := HK2.out; have := HK3.out; have := HK4.out; omega
                       case rel => exact ⟨(wrap64 (x14_4 + 1)), (by first | rfl | (simp; done) | (simp [*]; done)), H', ⟨by have := HJ3.out; have := HK2.out; have := HK3.out; have := HK4.out; omega⟩, ⟨rl HO_7⟩, ⟨rl HO_8⟩, ⟨rl HO_9⟩, ⟨bl HB⟩⟩
                     ·rw [if_neg c53] at H
                      exact absurd H (by simp)
                    ·rw [if_neg c52] at H
                     exact absurd H (by simp)
                   ·rw [if_neg c51] at H
                    exact absurd H (by simp)
                 ·rw [if_neg c48] at H
                  have c48b0 : decide (x14_4 < (t254.length : Int)) = false := decide_eq_false c48
                  clear c48
                  have H' := Aside0.mk H
                  clear H
                  go_wp2
                  go_roundg k4
                  case measure => have := HJ3.out; have := HK2.out; have := HK3.out; have := HK4.out; omega
                  case rel => exact ⟨(wrap64 (x10_2 + 1)), (by first | rfl | (simp; done) | (simp [*]; done)), H', ⟨by have := HJ3.out; have := HK2.out; have := HK3.out; have := HK4.out; omega⟩, ⟨rl HO_7⟩, ⟨rl HO_8⟩, ⟨rl HO_9⟩, ⟨bl HB⟩⟩
           ·rw [if_neg c20] at H
            exact absurd H (by simp)
          ·rw [if_neg c19] at H
           exact absurd H (by simp)
         ·rw [if_neg c18] at H
          exact absurd H (by simp)
        ·rw [if_neg c17] at H
         exact absurd H (by simp)
       ·rw [if_neg c16] at H
        exact absurd H (by simp)
      ·rw [if_neg c15] at H
       have c15b0 : decide (x10_2 < (t254.length : Int)) = false := decide_eq_false c15
       clear c15
       obtain rfl := Option.some.inj H
       obtain ⟨Ao71, co71, eo71⟩ := Kd.R_slice HO_9.out
       subst eo71
       go_wp2
       go_ret
       exact ⟨by first | rfl | (simp [errW_none, errW_some] <;> rfl) | (simp [*, errW_none, errW_some] <;> rfl), by repeat (first | (with_reducible first | exact HB.out | apply below_alloc | apply pw_below_drewN | apply below_drew1) | exact HB.out)⟩
end Go.Proofs.Ytiknnpfdpecfdaa.Gx

/- The declarations of Lxx23 that the claim Qi needs. -/
import Derived.Test.YtdldfdcedjmneaaQiTkP
import Derived.Test.YtdldfdcedjmneaaQiLxx0
import Derived.Test.YtdldfdcedjmneaaQiPbx2
namespace Go.Proofs.Ytdldfdcedjmneaa.Lx
open Go.RowKit Go.Proofs.Ytdldfdcedjmneaa.Own Go.Proofs.Ytdldfdcedjmneaa.Pb Go.Proofs.YtdldfdcedjmneaaW.PrintWords Go.Proofs.YtdldfdcedjmneaaW.PrintLast Go.Proofs.YtdldfdcedjmneaaW.PrintMore
attribute [local go_sem] max2_int min2_int max_two min_two max_three min_three max_four min_four
set_option linter.unusedVariables false
set_option linter.unusedSimpArgs false
mutual
def strap_perm_word.l0 : Nat → List Int → List Int → Option (List Int)
  | 0, _, _ => none
  | k + 1, x0, x3 => strap_perm_word.l1 k x0 x3 0
def strap_perm_word.l1 : Nat → List Int → List Int → Int → Option (List Int)
  | 0, _, _, _ => none
  | k + 1, x0, x3, x4 => if x4 < (wrap64 ((x0.length : Int) - 1)) then ((strap_perm_begins.f x0 x4).bind fun t571 => (if t571 = true then (if x4 = (wrap64 ((x0.length : Int) - 1)) then (some x3) else (if 0 ≤ (wrap64 (x4 + 1)) then (if (wrap64 (x4 + 1)) < (x0.length : Int) then (if 0 ≤ x4 then (if x4 < (x0.length : Int) then (if x3.length < 17592186044416 then (strap_perm_word.l0 k ((x0.set (x4 : Int).toNat (rd x0 (wrap64 (x4 + 1)))).set ((wrap64 (x4 + 1)) : Int).toNat (rd x0 x4)) (x3 ++ [wrap64 (x4 + 1)])) else (none)) else (none)) else (none)) else (none)) else (none))) else (strap_perm_word.l1 k x0 x3 (wrap64 (x4 + 1))))) else (if x4 = (wrap64 ((x0.length : Int) - 1)) then (some x3) else (if 0 ≤ (wrap64 (x4 + 1)) then (if (wrap64 (x4 + 1)) < (x0.length : Int) then (if 0 ≤ x4 then (if x4 < (x0.length : Int) then (if x3.length < 17592186044416 then (strap_perm_word.l0 k ((x0.set (x4 : Int).toNat (rd x0 (wrap64 (x4 + 1)))).set ((wrap64 (x4 + 1)) : Int).toNat (rd x0 x4)) (x3 ++ [wrap64 (x4 + 1)])) else (none)) else (none)) else (none)) else (none)) else (none)))
end
def strap_perm_word.f (k : Nat) (l0 : List Int) : Option (List Int) := (strap_clone.f l0).bind fun t568 => (strap_perm_word.l0 k t568 ([] : List Int))
def strap_perm_word.T8 : Bool × List (List Nat × List Nat) := (true, [([], []), ([], []), ([], []), ([], []), ([3], [3]), ([], []), ([], []), ([6], [6]), ([5, 7], [5, 7]), ([8], [8]), ([], []), ([], []), ([10, 11], [10, 11]), ([12], [12]), ([0, 1, 0, 1, 5, 6, 7, 8, 9, 13], [0, 1]), ([14, 9, 0, 1, 5, 6, 7, 8, 9, 13], [9, 14]), ([2, 4, 0, 1, 2, 3, 4, 5, 6, 7, 8, 9, 10, 11, 12, 13, 14, 15], [2, 4]), ([16, 13, 15, 0, 1, 2, 3, 4, 5, 6, 7, 8, 9, 10, 11, 12, 13, 14, 15], [13, 16])])
def strap_perm_word.B8 : List Nat := [0, 0, 0, 0, 8, 0, 0, 64, 224, 480, 0, 0, 3072, 7168, 16355, 32739, 65535, 131071]
theorem strap_perm_word.tab8 : rtab .any (opsOf Try.f79 8) = strap_perm_word.T8 := by kernel_rfl
theorem strap_perm_word.bits8 : waitsOk strap_perm_word.T8.2 strap_perm_word.B8 = true := by kernel_rfl
set_option maxHeartbeats 8000000 in
set_option maxRecDepth 100000 in
theorem strap_perm_word.calls (k : Nat) (A0 : Option Addr) (c0 : Nat) (l0 : List Int) (r : List Int) (w : World) (hr0 : Kd.C (Kd.int .i64) w A0 l0.length l0) (hc0 : l0.length ≤ c0) (h : strap_perm_word.f k l0 = some r) :
  Calls Try.prog 79 #[.slice A0 l0.length c0] w fun e w' => ∃ v0_ : Value, e = .returned (v0_) ∧ Kd.R (Kd.int .i64) 3 w' w.heap.size (fun _ => True) v0_ r ∧ Below w.heap.size w w' := by
 have HR0 := Aside0.mk hr0
 have HC0 := Aside0.mk hc0
 clear hr0 hc0
 have HB := Aside0.mk (Below.refl w.heap.size w)
 have H : ((strap_clone.f l0).bind fun t568 => (strap_perm_word.l0 k t568 ([] : List Int))) = some r := h
 clear h
 replace H := Option.bind_eq_some_iff.mp H
 obtain ⟨t568, A20, H⟩ := H
 replace H : (strap_perm_word.l0 k t568 ([] : List Int)) = some r := H
 have A2 := Aside0.mk A20
 clear A20
 have H' := Aside0.mk H
 clear H
 go_enter Try.func79, Try.ntmps79
 go_wp2_with (first | ((with_reducible refine gate_callee (f := 98) rfl ?_); refine gL 6 Try.func98 #[.slice A0 l0.length c0] ?_; (with_reducible refine (strap_clone.calls _ _ l0 t568 _ ?side1 ?side2 A2.out).mono ?_); (case side1 => exact cl (HR0.out)); (case side2 => exact HC0.out); rintro e w3 ⟨v569, rfl, ho0, hb⟩; refine ⟨_, rfl, ?_⟩; have n0_ := Aside0.mk (Kd.R_lower ho0 (below_size (bl HB))); have n1_ := Aside0.mk (below_step (bl HB) hb); clear HB; have HO570 := n0_; have HB := n1_; clear n0_ n1_; (try clear hb); (try clear hb2); (try clear hk); (try clear hi); (try clear ho0)))
 go_loopg [3] k (fun kq v3 w' => ∃ (x0_1 : List Int) (x3_1 : List Int), Aside0 (strap_perm_word.l0 kq x0_1 x3_1 = some r) ∧ Aside0 (kq ≤ k) ∧ Aside0 (Kd.R (Kd.int .i64) 3 w' w.heap.size (fun k_ => some k_ ≠ (v3 : Value).ownBlock) v569 x0_1) ∧ Aside0 (Kd.R (Kd.int .i64) 3 w' w.heap.size (fun k_ => some k_ ≠ (v569 : Value).ownBlock) v3 x3_1) ∧ Aside0 (Below w.heap.size w w'))
 case atStart => exact ⟨(t568), (([] : List Int)), H', ⟨Nat.le_refl _⟩, ⟨by (with_reducible repeat (first | apply Kd.R_alloc | apply Kd.R_drewN | apply Kd.R_drew)); exact Kd.R_mono HO570.out (fun _ hk => (by simp [Value.ownBlock]))⟩, ⟨by first | exact Kd.R_nil _ _ _ _ _ | exact Kd.N_nil _ _ _ _ _ | exact Kd.V_nil _ _ _ _ _ | exact Kd.Q_nil _ _ _ _ _ | exact Kd.S_nil _ _ _ _ _⟩, ⟨bl HB⟩⟩
 case round =>
  clear H'
  try clear p2
  obtain ⟨x0_1, x3_1, HA, HK1, HO_0, HO_3, HB⟩ := hrel
  cases gk with
  | zero => exact absurd HA.out (by simp [strap_perm_word.l0])
  | succ k1 =>
   have H := HA.out
   clear HA
   simp only [strap_perm_word.l0] at H
   have H' := Aside0.mk H
   clear H
   go_wp2
   go_loopg [4] k1 (fun kq v4 w' => ∃ (x4_2 : Int), v4 = .int .i64 x4_2 ∧ Aside0 (strap_perm_word.l1 kq x0_1 x3_1 x4_2 = some r) ∧ Aside0 (kq ≤ k1) ∧ Aside0 (Kd.R (Kd.int .i64) 3 w' w.heap.size (fun k_ => some k_ ≠ (u3 : Value).ownBlock) v569 x0_1) ∧ Aside0 (Kd.R (Kd.int .i64) 3 w' w.heap.size (fun k_ => some k_ ≠ (v569 : Value).ownBlock) u3 x3_1) ∧ Aside0 (Below w.heap.size w w'))
   case atStart => exact ⟨(0), (by first | rfl | (simp; done) | (simp [*]; done)), H', ⟨Nat.le_refl _⟩, ⟨rl HO_0⟩, ⟨rl HO_3⟩, ⟨bl HB⟩⟩
   case round =>
    clear H'
    try clear p2
    try clear p2
    obtain ⟨x4_2, rfl, HA, HK2, HO_0, HO_3, HB⟩ := hrel
    cases gk with
    | zero => exact absurd HA.out (by simp [strap_perm_word.l1])
    | succ k2 =>
     have H := HA.out
     clear HA
     simp only [strap_perm_word.l1] at H
     by_cases c4 : x4_2 < (wrap64 ((x0_1.length : Int) - 1))
     ·rw [if_pos c4] at H
      have c4b0 : decide (x4_2 < (wrap64 ((x0_1.length : Int) - 1))) = true := decide_eq_true c4
      clear c4
      replace H := Option.bind_eq_some_iff.mp H
      obtain ⟨t571, A50, H⟩ := H
      replace H : (if t571 = true then (if x4_2 = (wrap64 ((x0_1.length : Int) - 1)) then (some x3_1) else (if 0 ≤ (wrap64 (x4_2 + 1)) then (if (wrap64 (x4_2 + 1)) < (x0_1.length : Int) then (if 0 ≤ x4_2 then (if x4_2 < (x0_1.length : Int) then (if x3_1.length < 17592186044416 then (strap_perm_word.l0 k2 ((x0_1.set (x4_2 : Int).toNat (rd x0_1 (wrap64 (x4_2 + 1)))).set ((wrap64 (x4_2 + 1)) : Int).toNat (rd x0_1 x4_2)) (x3_1 ++ [wrap64 (x4_2 + 1)])) else (none)) else (none)) else (none)) else (none)) else (none))) else (strap_perm_word.l1 k2 x0_1 x3_1 (wrap64 (x4_2 + 1)))) = some r := H
      have A5 := Aside0.mk A50
      clear A50
      by_cases c6 : t571 = true
      ·subst c6
       have H1 : (if x4_2 = (wrap64 ((x0_1.length : Int) - 1)) then (some x3_1) else (if 0 ≤ (wrap64 (x4_2 + 1)) then (if (wrap64 (x4_2 + 1)) < (x0_1.length : Int) then (if 0 ≤ x4_2 then (if x4_2 < (x0_1.length : Int) then (if x3_1.length < 17592186044416 then (strap_perm_word.l0 k2 ((x0_1.set (x4_2 : Int).toNat (rd x0_1 (wrap64 (x4_2 + 1)))).set ((wrap64 (x4_2 + 1)) : Int).toNat (rd x0_1 x4_2)) (x3_1 ++ [wrap64 (x4_2 + 1)])) else (none)) else (none)) else (none)) else (none)) else (none))) = some r := by rw [if_pos rfl] at H; exact H
       clear H
       have H := H1
       clear H1
       by_cases c7 : x4_2 = (wrap64 ((x0_1.length : Int) - 1))
       ·rw [if_pos c7] at H
        have c7b0 : (x4_2 == (wrap64 ((x0_1.length : Int) - 1))) = true := beq_iff_eq.mpr c7
        have c7b1 : (x4_2 != (wrap64 ((x0_1.length : Int) - 1))) = false := bne_eq_false_iff_eq.mpr c7
        clear c7
        obtain rfl := Option.some.inj H
        obtain ⟨Ao8, co8, eo8⟩ := Kd.R_slice HO_0.out
        subst eo8
        go_wp2_with (first | (go_at_call 95; (with_reducible refine (strap_perm_begins.calls _ _ x0_1 x4_2 true _ ?side1 ?side2 A5.out).mono ?_); (case side1 => exact cl ((Kd.R_reads' HO_0.out).2.2)); (case side2 => exact (Kd.R_reads' HO_0.out).2.1); rintro e w' ⟨rfl, ⟨nd, rfl⟩⟩))
        go_ret
        exact ⟨_, by first | rfl | (simp [errW_none, errW_some] <;> rfl) | (simp [*, errW_none, errW_some] <;> rfl), by (with_reducible repeat (first | apply Kd.R_alloc | apply Kd.R_drewN | apply Kd.R_drew)); exact Kd.R_mono HO_3.out (fun _ hk => trivial), by repeat (first | (with_reducible first | exact HB.out | apply below_alloc | apply pw_below_drewN | apply below_drew1) | exact HB.out)⟩
       ·rw [if_neg c7] at H
        have c7b0 : (x4_2 == (wrap64 ((x0_1.length : Int) - 1))) = false := beq_eq_false_iff_ne.mpr c7
        have c7b1 : (x4_2 != (wrap64 ((x0_1.length : Int) - 1))) = true := bne_iff_ne.mpr c7
        obtain ⟨ji9, hji9⟩ : ∃ j_ : Int, (wrap64 (x4_2 + 1)) = j_ := ⟨_, rfl⟩
        replace H : (if 0 ≤ (ji9) then (if (ji9) < (x0_1.length : Int) then (if 0 ≤ x4_2 then (if x4_2 < (x0_1.length : Int) then (if x3_1.length < 17592186044416 then (strap_perm_word.l0 k2 ((x0_1.set (x4_2 : Int).toNat (rd x0_1 (ji9))).set ((ji9) : Int).toNat (rd x0_1 x4_2)) (x3_1 ++ [ji9])) else (none)) else (none)) else (none)) else (none)) else (none)) = some r := by first | (rw [hji9] at H; exact H) | (simp only [hji9] at H ⊢; exact H)
        (try rw [hji9] at A5)
        have hji9w : (IntKind.i64.wrap (x4_2 + 1)) = ji9 := (i64_w _).trans hji9
        by_cases c10 : 0 ≤ (ji9)
        ·rw [if_pos c10] at H
         have c10b0 : decide (0 ≤ (ji9)) = true := decide_eq_true c10
         clear c10
         by_cases c11 : (ji9) < (x0_1.length : Int)
         ·rw [if_pos c11] at H
          have c11b0 : decide ((ji9) < (x0_1.length : Int)) = true := decide_eq_true c11
          clear c11
          by_cases c12 : 0 ≤ x4_2
          ·rw [if_pos c12] at H
           have c12b0 : decide (0 ≤ x4_2) = true := decide_eq_true c12
           clear c12
           by_cases c13 : x4_2 < (x0_1.length : Int)
           ·rw [if_pos c13] at H
            have c13b0 : decide (x4_2 < (x0_1.length : Int)) = true := decide_eq_true c13
            clear c13
            obtain ⟨y574, hy574⟩ : ∃ y_ : List Int, y_ = (x0_1.set (x4_2 : Int).toNat (rd x0_1 (ji9))) := ⟨_, rfl⟩
            replace H : (if x3_1.length < 17592186044416 then (strap_perm_word.l0 k2 (y574.set ((ji9) : Int).toNat (rd x0_1 x4_2)) (x3_1 ++ [ji9])) else (none)) = some r := by first | (rw [hy574]; with_reducible exact H) | (have H2_ := (Option.bind_some _ _).symm.trans H; rw [hy574]; with_reducible exact H2_) | (have H2_ := (Option.bind_some _ _).symm.trans H; with_reducible exact H2_) | with_reducible exact H | (rw [hy574]; exact H) | exact H
            have Ny574 := Aside0.mk hy574
            clear hy574
            obtain ⟨y575, hy575⟩ : ∃ y_ : List Int, y_ = (y574.set ((ji9) : Int).toNat (rd x0_1 x4_2)) := ⟨_, rfl⟩
            replace H : (if x3_1.length < 17592186044416 then (strap_perm_word.l0 k2 y575 (x3_1 ++ [ji9])) else (none)) = some r := by first | (rw [hy575]; with_reducible exact H) | (have H2_ := (Option.bind_some _ _).symm.trans H; rw [hy575]; with_reducible exact H2_) | (have H2_ := (Option.bind_some _ _).symm.trans H; with_reducible exact H2_) | with_reducible exact H | (rw [hy575]; exact H) | exact H
            have Ny575 := Aside0.mk hy575
            clear hy575
            by_cases c16 : x3_1.length < 17592186044416
            ·rw [if_pos c16] at H
             have LMc16 := Aside0.mk c16
             clear c16
             obtain ⟨y576, hy576⟩ : ∃ y_ : List Int, y_ = (x3_1 ++ [ji9]) := ⟨_, rfl⟩
             replace H : (strap_perm_word.l0 k2 y575 y576) = some r := by first | (rw [hy576]; with_reducible exact H) | (have H2_ := (Option.bind_some _ _).symm.trans H; rw [hy576]; with_reducible exact H2_) | (have H2_ := (Option.bind_some _ _).symm.trans H; with_reducible exact H2_) | with_reducible exact H | (rw [hy576]; exact H) | exact H
             have Ny576 := Aside0.mk hy576
             clear hy576
             have H' := Aside0.mk H
             clear H
             obtain ⟨Ao17, co17, eo17⟩ := Kd.R_slice HO_0.out
             subst eo17
             try go_wp2_with (first | (go_at_call 95; (with_reducible refine (strap_perm_begins.calls _ _ x0_1 x4_2 true _ ?side1 ?side2 A5.out).mono ?_); (case side1 => exact cl ((Kd.R_reads' HO_0.out).2.2)); (case side2 => exact (Kd.R_reads' HO_0.out).2.1); rintro e w' ⟨rfl, ⟨nd, rfl⟩⟩; (try (rw [drewN_self wr]; generalize hq_ : World.drewN wr _ = wr; have n0_ : Aside0 (Kd.R (Kd.int .i64) 3 wr w.heap.size (fun k_ => some k_ ≠ (u3 : Value).ownBlock) (.slice Ao17 x0_1.length co17) x0_1) := ⟨by rw [← hq_]; exact (rl HO_0)⟩; have n1_ : Aside0 (Kd.R (Kd.int .i64) 3 wr w.heap.size (fun k_ => some k_ ≠ (.slice Ao17 x0_1.length co17 : Value).ownBlock) u3 x3_1) := ⟨by rw [← hq_]; exact (rl HO_3)⟩; have n2_ : Aside0 (Below w.heap.size w wr) := ⟨by rw [← hq_]; exact (bl HB)⟩; clear HO_0 HO_3 HB hq_; have HO_0 := n0_; have HO_3 := n1_; have HB := n2_; clear n0_ n1_ n2_))))
             have n0_ := Aside0.mk (Kd.R_drew HO_0.out)
             have n1_ := Aside0.mk (Kd.R_drew HO_3.out)
             have n2_ := Aside0.mk (below_drew1 HB.out)
             clear HO_0 HO_3 HB
             have HO_0 := n0_; have HO_3 := n1_; have HB := n2_
             clear n0_ n1_ n2_
             have p572 : 0 ≤ ((ji9) : Int) := ofd
             have q572 : (ji9) < (x0_1.length : Int) := ofd
             obtain ⟨ad572, e572, hx572_0⟩ := Kd.at_int (Kd.R_reads' HO_0.out).2.2 (ji9) p572 q572
             cases e572
             replace p572 := eq_true p572
             replace q572 := eq_true q572
             have p573 : 0 ≤ (x4_2 : Int) := ofd
             have q573 : x4_2 < (x0_1.length : Int) := ofd
             obtain ⟨ad573, e573, hx573_0⟩ := Kd.at_int (Kd.R_reads' HO_0.out).2.2 x4_2 p573 q573
             obtain rfl : ad572 = ad573 := (by injection e573)
             replace p573 := eq_true p573
             replace q573 := eq_true q573
             have p14 : 0 ≤ (x4_2 : Int) := ofd
             have q14 : (x4_2 : Int) < ((x0_1.length : Int) : Int) := ofd
             obtain ⟨go14, co14, eo14, gb14, gl14, cl14, HG14⟩ := Kd.R_form HO_0.out (by omega)
             (first | cases eo14 | (injection eo14 with ea_ en_ ec_; (first | subst ea_ | (injection ea_ with ea_; subst ea_)); subst ec_; clear en_))
             have GB14 := Aside0.mk gb14
             have GG14 := Aside0.mk HG14
             clear gb14 gl14 HG14
             (first | simp only [add_plain] at hx572_0 | skip)
             (first | simp only [add_plain] at hx573_0 | skip)
             obtain ⟨hx14_0, hf14_0⟩ := Kd.R_celln 0 HO_0.out (x4_2 : Int) p14 q14
             replace p14 := eq_true p14
             replace q14 := eq_true q14
             have HP19 := Kd.R_putn HO_0.out (x4_2 : Int) (rd x0_1 (ji9))
             rw [← Ny574.out] at HP19
             have HQ19 := Aside0.mk HP19
             clear HP19
             have p15 : 0 ≤ ((ji9) : Int) := ofd
             have q15 : ((ji9) : Int) < ((x0_1.length : Int) : Int) := ofd
             obtain ⟨hx15_0, hf15_0⟩ := Kd.R_celln 0 HQ19.out ((ji9) : Int) p15 q15
             replace p15 := eq_true p15
             replace q15 := eq_true q15
             have HP20 := Kd.R_putn HQ19.out ((ji9) : Int) (rd x0_1 x4_2)
             rw [← Ny575.out] at HP20
             have HQ20 := Aside0.mk HP20
             clear HP20
             refine start_ (n := 18) (S := fun w' => w'.cell? ⟨go14, ((ji9)).toNat, none⟩ = some (.int .i64 (rd x0_1 (ji9))) ∧ w'.cell? ⟨go14, (x4_2).toNat, none⟩ = some (.int .i64 (rd x0_1 x4_2))) (ds := [15, 17]) #[false, false, false, false, false, false, false, false, false, false, false, false, false, false, false, false, false, false] (by kernel_rfl) rfl rfl ⟨hx572_0, hx573_0⟩ (fun hHeld => ?_); refine with_tabW strap_perm_word.tab8 strap_perm_word.bits8 (fun HT_ HW_ => ?_)
             generalize wr.drew = w18 at HO_0 HO_3 HB GG14 HQ19 HQ20 hf14_0 hf15_0 hx14_0 hx15_0 hx572_0 hx573_0 hHeld ⊢
             refine pr 0 26 HT_ ?_
             refine pr 1 27 HT_ ?_
             refine pr 2 28 HT_ ?_
             refine pr 3 29 HT_ ?_
             refine pr 4 30 HT_ ?_
             refine pr 5 31 HT_ ?_
             refine pr 6 32 HT_ ?_
             refine pr 7 33 HT_ ?_
             refine pr 8 34 HT_ ?_
             refine pr 10 36 HT_ ?_
             refine pr 11 37 HT_ ?_
             refine pr 12 38 HT_ ?_
             refine tr 9 35 HT_ HW_ hHeld ?_
             refine tr 13 39 HT_ HW_ hHeld ?_
             refine pr 14 40 HT_ ?_
             refine la 15 (none) HT_ (fun K hK => ?_)
             refine sk ?_
             refine hK.out _ _ ?_
             clear hK K
             refine pr 16 41 HT_ ?_
             refine la 17 (none) HT_ (fun K hK => ?_)
             refine sk ?_
             refine hK.out _ _ ?_
             clear hK K
             refine dn HT_ ?_
             try go_wp2_with (first | ((with_reducible refine gate_builtin (b := .append) (xs := #[.tmp 42, .tmp 45]) rfl ?_); at_builtin; refine Kd.R_append (Kd.int .i64) (w0 := w) w.heap.size rfl (.tmp 42) (.tmp 45) 22 3 (.int .i64 0) 8 rfl Try.underlying22 info3 rfl (by decide) (by omega) u3 x3_1 ji9 [.int .i64 ji9] (fun k_ => some k_ ≠ (.slice (some ⟨go14, 0, none⟩) x0_1.length co17 : Value).ownBlock) (fun _ => False) rfl (by first | (go_simp; done) | (go_simp; rfl)) ?aP (fun _ hk => hk.elim) ?aF ?aO ?aB ?aS ?aL ?_; (case aP => exact rfl); (case aB => exact (bl HB)); (case aF => exact (fun k_ hk => Kd.fresh' (Kd.R_lt (rl HQ20)) k_ hk)); (case aO => exact (by (with_reducible repeat (first | apply Kd.R_alloc | apply Kd.R_drewN | apply Kd.R_drew)); exact Kd.R_mono (Kd.R_far (p := ⟨go14, ((ji9) : Int).toNat, none⟩) (Kd.R_far (p := ⟨go14, (x4_2 : Int).toNat, none⟩) (Kd.R_mono HO_3.out (fun k_ hk => (⟨hk, fun e_ => hk (by rw [e_]; rfl)⟩ : _ ∧ k_ ≠ go14))) (fun _ hk => hk.2) (.int .i64 (rd x0_1 (ji9)))) (fun _ hk => hk.2) (.int .i64 (rd x0_1 x4_2))) (fun _ hk => hk.1))); (case aS => exact (below_size (bl HB))); (case aL => have := LMc16.out; omega); intro v577 w21 ho hb hg hat; rw [← Ny576.out] at ho; have n0_ := Aside0.mk (Kd.R_after (ok := (fun _ => True)) (by (with_reducible repeat (first | apply Kd.R_alloc | apply Kd.R_drewN | apply Kd.R_drew)); exact Kd.R_mono HQ20.out (fun _ hk => ⟨trivial, hk⟩)) hg hat); have n1_ := Aside0.mk (hb); have n2_ := Aside0.mk (ho); clear HO_0; clear HB; clear HO_3; have HO_0 := n0_; have HB := n1_; have HO578 := n2_; clear n0_ n1_ n2_; clear ho hb hg hat))
             go_roundg k2
             case measure => have := HK1.out; have := HK2.out; omega
             case rel => exact ⟨(y575), (y576), H', ⟨by have := HK1.out; have := HK2.out; omega⟩, ⟨by (with_reducible repeat (first | apply Kd.R_alloc | apply Kd.R_drewN | apply Kd.R_drew)); exact Kd.R_mono HO_0.out (fun _ hk => hk.2)⟩, ⟨rl HO578⟩, ⟨bl HB⟩⟩
            ·rw [if_neg c16] at H
             exact absurd H (by simp)
           ·rw [if_neg c13] at H
            exact absurd H (by simp)
          ·rw [if_neg c12] at H
           exact absurd H (by simp)
         ·rw [if_neg c11] at H
          exact absurd H (by simp)
        ·rw [if_neg c10] at H
         exact absurd H (by simp)
      ·replace c6 := Bool.eq_false_iff.mpr c6
       subst c6
       have H1 : (strap_perm_word.l1 k2 x0_1 x3_1 (wrap64 (x4_2 + 1))) = some r := by rw [if_neg (show ¬ (false = true) by decide)] at H; exact H
       clear H
       have H := H1
       clear H1
       have H' := Aside0.mk H
       clear H
       obtain ⟨Ao22, co22, eo22⟩ := Kd.R_slice HO_0.out
       subst eo22
       go_wp2_with (first | (go_at_call 95; (with_reducible refine (strap_perm_begins.calls _ _ x0_1 x4_2 false _ ?side1 ?side2 A5.out).mono ?_); (case side1 => exact cl ((Kd.R_reads' HO_0.out).2.2)); (case side2 => exact (Kd.R_reads' HO_0.out).2.1); rintro e w' ⟨rfl, ⟨nd, rfl⟩⟩))
       go_roundg k2
       case measure => have := HK1.out; have := HK2.out; omega
       case rel => exact ⟨(wrap64 (x4_2 + 1)), (by first | rfl | (simp; done) | (simp [*]; done)), H', ⟨by have := HK1.out; have := HK2.out; omega⟩, ⟨rl HO_0⟩, ⟨rl HO_3⟩, ⟨bl HB⟩⟩
     ·rw [if_neg c4] at H
      have c4b0 : decide (x4_2 < (wrap64 ((x0_1.length : Int) - 1))) = false := decide_eq_false c4
      clear c4
      by_cases c23 : x4_2 = (wrap64 ((x0_1.length : Int) - 1))
      ·rw [if_pos c23] at H
       have c23b0 : (x4_2 == (wrap64 ((x0_1.length : Int) - 1))) = true := beq_iff_eq.mpr c23
       have c23b1 : (x4_2 != (wrap64 ((x0_1.length : Int) - 1))) = false := bne_eq_false_iff_eq.mpr c23
       clear c23
       obtain rfl := Option.some.inj H
       obtain ⟨Ao24, co24, eo24⟩ := Kd.R_slice HO_0.out
       subst eo24
       go_wp2
       go_ret
       exact ⟨_, by first | rfl | (simp [errW_none, errW_some] <;> rfl) | (simp [*, errW_none, errW_some] <;> rfl), by (with_reducible repeat (first | apply Kd.R_alloc | apply Kd.R_drewN | apply Kd.R_drew)); exact Kd.R_mono HO_3.out (fun _ hk => trivial), by repeat (first | (with_reducible first | exact HB.out | apply below_alloc | apply pw_below_drewN | apply below_drew1) | exact HB.out)⟩
      ·rw [if_neg c23] at H
       have c23b0 : (x4_2 == (wrap64 ((x0_1.length : Int) - 1))) = false := beq_eq_false_iff_ne.mpr c23
       have c23b1 : (x4_2 != (wrap64 ((x0_1.length : Int) - 1))) = true := bne_iff_ne.mpr c23
       obtain ⟨ji25, hji25⟩ : ∃ j_ : Int, (wrap64 (x4_2 + 1)) = j_ := ⟨_, rfl⟩
       replace H : (if 0 ≤ (ji25) then (if (ji25) < (x0_1.length : Int) then (if 0 ≤ x4_2 then (if x4_2 < (x0_1.length : Int) then (if x3_1.length < 17592186044416 then (strap_perm_word.l0 k2 ((x0_1.set (x4_2 : Int).toNat (rd x0_1 (ji25))).set ((ji25) : Int).toNat (rd x0_1 x4_2)) (x3_1 ++ [ji25])) else (none)) else (none)) else (none)) else (none)) else (none)) = some r := by first | (rw [hji25] at H; exact H) | (simp only [hji25] at H ⊢; exact H)
       have hji25w : (IntKind.i64.wrap (x4_2 + 1)) = ji25 := (i64_w _).trans hji25
       by_cases c26 : 0 ≤ (ji25)
       ·rw [if_pos c26] at H
        have c26b0 : decide (0 ≤ (ji25)) = true := decide_eq_true c26
        clear c26
        by_cases c27 : (ji25) < (x0_1.length : Int)
        ·rw [if_pos c27] at H
         have c27b0 : decide ((ji25) < (x0_1.length : Int)) = true := decide_eq_true c27
         clear c27
         by_cases c28 : 0 ≤ x4_2
         ·rw [if_pos c28] at H
          have c28b0 : decide (0 ≤ x4_2) = true := decide_eq_true c28
          clear c28
          by_cases c29 : x4_2 < (x0_1.length : Int)
          ·rw [if_pos c29] at H
           have c29b0 : decide (x4_2 < (x0_1.length : Int)) = true := decide_eq_true c29
           clear c29
           obtain ⟨y581, hy581⟩ : ∃ y_ : List Int, y_ = (x0_1.set (x4_2 : Int).toNat (rd x0_1 (ji25))) := ⟨_, rfl⟩
           replace H : (if x3_1.length < 17592186044416 then (strap_perm_word.l0 k2 (y581.set ((ji25) : Int).toNat (rd x0_1 x4_2)) (x3_1 ++ [ji25])) else (none)) = some r := by first | (rw [hy581]; with_reducible exact H) | (have H2_ := (Option.bind_some _ _).symm.trans H; rw [hy581]; with_reducible exact H2_) | (have H2_ := (Option.bind_some _ _).symm.trans H; with_reducible exact H2_) | with_reducible exact H | (rw [hy581]; exact H) | exact H
           have Ny581 := Aside0.mk hy581
           clear hy581
           obtain ⟨y582, hy582⟩ : ∃ y_ : List Int, y_ = (y581.set ((ji25) : Int).toNat (rd x0_1 x4_2)) := ⟨_, rfl⟩
           replace H : (if x3_1.length < 17592186044416 then (strap_perm_word.l0 k2 y582 (x3_1 ++ [ji25])) else (none)) = some r := by first | (rw [hy582]; with_reducible exact H) | (have H2_ := (Option.bind_some _ _).symm.trans H; rw [hy582]; with_reducible exact H2_) | (have H2_ := (Option.bind_some _ _).symm.trans H; with_reducible exact H2_) | with_reducible exact H | (rw [hy582]; exact H) | exact H
           have Ny582 := Aside0.mk hy582
           clear hy582
           by_cases c32 : x3_1.length < 17592186044416
           ·rw [if_pos c32] at H
            have LMc32 := Aside0.mk c32
            clear c32
            obtain ⟨y583, hy583⟩ : ∃ y_ : List Int, y_ = (x3_1 ++ [ji25]) := ⟨_, rfl⟩
            replace H : (strap_perm_word.l0 k2 y582 y583) = some r := by first | (rw [hy583]; with_reducible exact H) | (have H2_ := (Option.bind_some _ _).symm.trans H; rw [hy583]; with_reducible exact H2_) | (have H2_ := (Option.bind_some _ _).symm.trans H; with_reducible exact H2_) | with_reducible exact H | (rw [hy583]; exact H) | exact H
            have Ny583 := Aside0.mk hy583
            clear hy583
            have H' := Aside0.mk H
            clear H
            obtain ⟨Ao33, co33, eo33⟩ := Kd.R_slice HO_0.out
            subst eo33
            try go_wp2
            have n0_ := Aside0.mk (Kd.R_drew HO_0.out)
            have n1_ := Aside0.mk (Kd.R_drew HO_3.out)
            have n2_ := Aside0.mk (below_drew1 HB.out)
            clear HO_0 HO_3 HB
            have HO_0 := n0_; have HO_3 := n1_; have HB := n2_
            clear n0_ n1_ n2_
            have p579 : 0 ≤ ((ji25) : Int) := ofd
            have q579 : (ji25) < (x0_1.length : Int) := ofd
            obtain ⟨ad579, e579, hx579_0⟩ := Kd.at_int (Kd.R_reads' HO_0.out).2.2 (ji25) p579 q579
            cases e579
            replace p579 := eq_true p579
            replace q579 := eq_true q579
            have p580 : 0 ≤ (x4_2 : Int) := ofd
            have q580 : x4_2 < (x0_1.length : Int) := ofd
            obtain ⟨ad580, e580, hx580_0⟩ := Kd.at_int (Kd.R_reads' HO_0.out).2.2 x4_2 p580 q580
            obtain rfl : ad579 = ad580 := (by injection e580)
            replace p580 := eq_true p580
            replace q580 := eq_true q580
            have p30 : 0 ≤ (x4_2 : Int) := ofd
            have q30 : (x4_2 : Int) < ((x0_1.length : Int) : Int) := ofd
            obtain ⟨go30, co30, eo30, gb30, gl30, cl30, HG30⟩ := Kd.R_form HO_0.out (by omega)
            (first | cases eo30 | (injection eo30 with ea_ en_ ec_; (first | subst ea_ | (injection ea_ with ea_; subst ea_)); subst ec_; clear en_))
            have GB30 := Aside0.mk gb30
            have GG30 := Aside0.mk HG30
            clear gb30 gl30 HG30
            (first | simp only [add_plain] at hx579_0 | skip)
            (first | simp only [add_plain] at hx580_0 | skip)
            obtain ⟨hx30_0, hf30_0⟩ := Kd.R_celln 0 HO_0.out (x4_2 : Int) p30 q30
            replace p30 := eq_true p30
            replace q30 := eq_true q30
            have HP35 := Kd.R_putn HO_0.out (x4_2 : Int) (rd x0_1 (ji25))
            rw [← Ny581.out] at HP35
            have HQ35 := Aside0.mk HP35
            clear HP35
            have p31 : 0 ≤ ((ji25) : Int) := ofd
            have q31 : ((ji25) : Int) < ((x0_1.length : Int) : Int) := ofd
            obtain ⟨hx31_0, hf31_0⟩ := Kd.R_celln 0 HQ35.out ((ji25) : Int) p31 q31
            replace p31 := eq_true p31
            replace q31 := eq_true q31
            have HP36 := Kd.R_putn HQ35.out ((ji25) : Int) (rd x0_1 x4_2)
            rw [← Ny582.out] at HP36
            have HQ36 := Aside0.mk HP36
            clear HP36
            refine start_ (n := 18) (S := fun w' => w'.cell? ⟨go30, ((ji25)).toNat, none⟩ = some (.int .i64 (rd x0_1 (ji25))) ∧ w'.cell? ⟨go30, (x4_2).toNat, none⟩ = some (.int .i64 (rd x0_1 x4_2))) (ds := [15, 17]) #[false, false, false, false, false, false, false, false, false, false, false, false, false, false, false, false, false, false] (by kernel_rfl) rfl rfl ⟨hx579_0, hx580_0⟩ (fun hHeld => ?_); refine with_tabW strap_perm_word.tab8 strap_perm_word.bits8 (fun HT_ HW_ => ?_)
            generalize wr.drew = w34 at HO_0 HO_3 HB GG30 HQ35 HQ36 hf30_0 hf31_0 hx30_0 hx31_0 hx579_0 hx580_0 hHeld ⊢
            refine pr 0 26 HT_ ?_
            refine pr 1 27 HT_ ?_
            refine pr 2 28 HT_ ?_
            refine pr 3 29 HT_ ?_
            refine pr 4 30 HT_ ?_
            refine pr 5 31 HT_ ?_
            refine pr 6 32 HT_ ?_
            refine pr 7 33 HT_ ?_
            refine pr 8 34 HT_ ?_
            refine pr 10 36 HT_ ?_
            refine pr 11 37 HT_ ?_
            refine pr 12 38 HT_ ?_
            refine tr 9 35 HT_ HW_ hHeld ?_
            refine tr 13 39 HT_ HW_ hHeld ?_
            refine pr 14 40 HT_ ?_
            refine la 15 (none) HT_ (fun K hK => ?_)
            refine sk ?_
            refine hK.out _ _ ?_
            clear hK K
            refine pr 16 41 HT_ ?_
            refine la 17 (none) HT_ (fun K hK => ?_)
            refine sk ?_
            refine hK.out _ _ ?_
            clear hK K
            refine dn HT_ ?_
            try go_wp2_with (first | ((with_reducible refine gate_builtin (b := .append) (xs := #[.tmp 42, .tmp 45]) rfl ?_); at_builtin; refine Kd.R_append (Kd.int .i64) (w0 := w) w.heap.size rfl (.tmp 42) (.tmp 45) 22 3 (.int .i64 0) 8 rfl Try.underlying22 info3 rfl (by decide) (by omega) u3 x3_1 ji25 [.int .i64 ji25] (fun k_ => some k_ ≠ (.slice (some ⟨go30, 0, none⟩) x0_1.length co33 : Value).ownBlock) (fun _ => False) rfl (by first | (go_simp; done) | (go_simp; rfl)) ?aP (fun _ hk => hk.elim) ?aF ?aO ?aB ?aS ?aL ?_; (case aP => exact rfl); (case aB => exact (bl HB)); (case aF => exact (fun k_ hk => Kd.fresh' (Kd.R_lt (rl HQ36)) k_ hk)); (case aO => exact (by (with_reducible repeat (first | apply Kd.R_alloc | apply Kd.R_drewN | apply Kd.R_drew)); exact Kd.R_mono (Kd.R_far (p := ⟨go30, ((ji25) : Int).toNat, none⟩) (Kd.R_far (p := ⟨go30, (x4_2 : Int).toNat, none⟩) (Kd.R_mono HO_3.out (fun k_ hk => (⟨hk, fun e_ => hk (by rw [e_]; rfl)⟩ : _ ∧ k_ ≠ go30))) (fun _ hk => hk.2) (.int .i64 (rd x0_1 (ji25)))) (fun _ hk => hk.2) (.int .i64 (rd x0_1 x4_2))) (fun _ hk => hk.1))); (case aS => exact (below_size (bl HB))); (case aL => have := LMc32.out; omega); intro v584 w37 ho hb hg hat; rw [← Ny583.out] at ho; have n0_ := Aside0.mk (Kd.R_after (ok := (fun _ => True)) (by (with_reducible repeat (first | apply Kd.R_alloc | apply Kd.R_drewN | apply Kd.R_drew)); exact Kd.R_mono HQ36.out (fun _ hk => ⟨trivial, hk⟩)) hg hat); have n1_ := Aside0.mk (hb); have n2_ := Aside0.mk (ho); clear HO_0; clear HB; clear HO_3; have HO_0 := n0_; have HB := n1_; have HO585 := n2_; clear n0_ n1_ n2_; clear ho hb hg hat))
            go_roundg k2
            case measure => have := HK1.out; have := HK2.out; omega
            case rel => exact ⟨(y582), (y583), H', ⟨by have := HK1.out; have := HK2.out; omega⟩, ⟨by (with_reducible repeat (first | apply Kd.R_alloc | apply Kd.R_drewN | apply Kd.R_drew)); exact Kd.R_mono HO_0.out (fun _ hk => hk.2)⟩, ⟨rl HO585⟩, ⟨bl HB⟩⟩
           ·rw [if_neg c32] at H
            exact absurd H (by simp)
          ·rw [if_neg c29] at H
           exact absurd H (by simp)
         ·rw [if_neg c28] at H
          exact absurd H (by simp)
        ·rw [if_neg c27] at H
         exact absurd H (by simp)
       ·rw [if_neg c26] at H
        exact absurd H (by simp)
end Go.Proofs.Ytdldfdcedjmneaa.Lx

/- The declarations of Lxx17 that the claim Qi needs. -/
import Derived.Test.YtdldfdcedjmneaaQiTkP
import Derived.Test.YtdldfdcedjmneaaQiLxx0
namespace Go.Proofs.Ytdldfdcedjmneaa.Lx
open Go.RowKit Go.Proofs.Ytdldfdcedjmneaa.Own Go.Proofs.YtdldfdcedjmneaaW.PrintWords Go.Proofs.YtdldfdcedjmneaaW.PrintLast Go.Proofs.YtdldfdcedjmneaaW.PrintMore
attribute [local go_sem] max2_int min2_int max_two min_two max_three min_three max_four min_four
set_option linter.unusedVariables false
set_option linter.unusedSimpArgs false
mutual
def gampref05_Simple.l0 : Nat → List Int → List Int → Option (List Int)
  | 0, _, _ => none
  | k + 1, x3, x4 => gampref05_Simple.l1 k x3 x4 0
def gampref05_Simple.l1 : Nat → List Int → List Int → Int → Option (List Int)
  | 0, _, _, _ => none
  | k + 1, x3, x4, x5 => if (wrap64 (x5 + 1)) < (x4.length : Int) then (if 0 ≤ x5 then (if x5 < (x4.length : Int) then (if 0 ≤ (wrap64 (x5 + 1)) then (if (rd x4 x5) < (rd x4 (wrap64 (x5 + 1))) then (gampref05_Simple.l1 k x3 x4 (wrap64 (x5 + 1))) else (if (wrap64 (x5 + 1)) ≥ (x4.length : Int) then (some x3) else (if x3.length < 17592186044416 then (gampref05_Simple.l0 k (x3 ++ [wrap64 (x5 + 1)]) ((x4.set (x5 : Int).toNat (rd x4 (wrap64 (x5 + 1)))).set ((wrap64 (x5 + 1)) : Int).toNat (rd x4 x5))) else (none)))) else (none)) else (none)) else (none)) else (if (wrap64 (x5 + 1)) ≥ (x4.length : Int) then (some x3) else (if x3.length < 17592186044416 then (if 0 ≤ (wrap64 (x5 + 1)) then (none) else (none)) else (none)))
end
def gampref05_Simple.f (k : Nat) (l0 : List Int) : Option (List Int) := (some (([] : List Int) : List Int)).bind fun y463 => (if y463.length + l0.length < 17592186044416 then (gampref05_Simple.l0 k (([] : List Int)) (y463 ++ l0)) else (none))
def gampref05_Simple.T3 : Bool × List (List Nat × List Nat) := (true, [([], []), ([0], [0]), ([], []), ([2], [2]), ([1, 3], [1, 3]), ([4], [4]), ([5], [5]), ([5], [5]), ([6, 7, 5], [5, 6, 7]), ([8, 5], [5, 8]), ([5], [5]), ([5], [5]), ([11, 5], [5, 11]), ([10, 12, 5], [5, 10, 12]), ([13, 5], [5, 13]), ([9, 14, 5], [5, 9, 14]), ([5, 15], [5, 15])])
def gampref05_Simple.B3 : List Nat := [0, 1, 0, 4, 15, 31, 63, 63, 255, 511, 63, 63, 2111, 7231, 15423, 32767, 65535]
theorem gampref05_Simple.tab3 : rtab .any (opsOf Try.f28 3) = gampref05_Simple.T3 := by kernel_rfl
theorem gampref05_Simple.bits3 : waitsOk gampref05_Simple.T3.2 gampref05_Simple.B3 = true := by kernel_rfl
def gampref05_Simple.T8 : Bool × List (List Nat × List Nat) := (true, [([], []), ([], []), ([], []), ([], []), ([3], [3]), ([], []), ([], []), ([6], [6]), ([5, 7], [5, 7]), ([8], [8]), ([], []), ([], []), ([10, 11], [10, 11]), ([12], [12]), ([0, 1, 0, 1, 5, 6, 7, 8, 9, 13], [0, 1]), ([14, 9, 0, 1, 5, 6, 7, 8, 9, 13], [9, 14]), ([2, 4, 0, 1, 2, 3, 4, 5, 6, 7, 8, 9, 10, 11, 12, 13, 14, 15], [2, 4]), ([16, 13, 15, 0, 1, 2, 3, 4, 5, 6, 7, 8, 9, 10, 11, 12, 13, 14, 15], [13, 16])])
def gampref05_Simple.B8 : List Nat := [0, 0, 0, 0, 8, 0, 0, 64, 224, 480, 0, 0, 3072, 7168, 16355, 32739, 65535, 131071]
theorem gampref05_Simple.tab8 : rtab .any (opsOf Try.f28 8) = gampref05_Simple.T8 := by kernel_rfl
theorem gampref05_Simple.bits8 : waitsOk gampref05_Simple.T8.2 gampref05_Simple.B8 = true := by kernel_rfl
set_option maxHeartbeats 8000000 in
set_option maxRecDepth 100000 in
theorem gampref05_Simple.calls (k : Nat) (A0 : Option Addr) (c0 : Nat) (l0 : List Int) (r : List Int) (w : World) (hr0 : Kd.C (Kd.int .i64) w A0 l0.length l0) (hc0 : l0.length ≤ c0) (h : gampref05_Simple.f k l0 = some r) :
  Calls Try.prog 28 #[.slice A0 l0.length c0] w fun e w' => ∃ v0_ : Value, e = .returned (v0_) ∧ Kd.R (Kd.int .i64) 3 w' w.heap.size (fun _ => True) v0_ r ∧ Below w.heap.size w w' := by
 have HR0 := Aside0.mk hr0
 have HC0 := Aside0.mk hc0
 clear hr0 hc0
 have HB := Aside0.mk (Below.refl w.heap.size w)
 have H : ((some (([] : List Int) : List Int)).bind fun y463 => (if y463.length + l0.length < 17592186044416 then (gampref05_Simple.l0 k (([] : List Int)) (y463 ++ l0)) else (none))) = some r := h
 clear h
 obtain ⟨y460, hy460⟩ : ∃ y_ : List Int, y_ = (([] : List Int)) := ⟨_, rfl⟩
 replace H : ((some (([] : List Int) : List Int)).bind fun y463 => (if y463.length + l0.length < 17592186044416 then (gampref05_Simple.l0 k y460 (y463 ++ l0)) else (none))) = some r := by first | (rw [hy460]; with_reducible exact H) | (have H2_ := (Option.bind_some _ _).symm.trans H; rw [hy460]; with_reducible exact H2_) | (have H2_ := (Option.bind_some _ _).symm.trans H; with_reducible exact H2_) | with_reducible exact H | (rw [hy460]; exact H) | exact H
 have Ny460 := Aside0.mk hy460
 clear hy460
 obtain ⟨y463, hy463⟩ : ∃ y_ : List Int, y_ = (([] : List Int)) := ⟨_, rfl⟩
 replace H : (if y463.length + l0.length < 17592186044416 then (gampref05_Simple.l0 k y460 (y463 ++ l0)) else (none)) = some r := by first | (rw [hy463]; with_reducible exact H) | (have H2_ := (Option.bind_some _ _).symm.trans H; rw [hy463]; with_reducible exact H2_) | (have H2_ := (Option.bind_some _ _).symm.trans H; with_reducible exact H2_) | with_reducible exact H | (rw [hy463]; exact H) | exact H
 have Ny463 := Aside0.mk hy463
 clear hy463
 by_cases c2 : y463.length + l0.length < 17592186044416
 ·rw [if_pos c2] at H
  have LMc2 := Aside0.mk c2
  clear c2
  obtain ⟨y466, hy466⟩ : ∃ y_ : List Int, y_ = (y463 ++ l0) := ⟨_, rfl⟩
  replace H : (gampref05_Simple.l0 k y460 y466) = some r := by first | (rw [hy466]; with_reducible exact H) | (have H2_ := (Option.bind_some _ _).symm.trans H; rw [hy466]; with_reducible exact H2_) | (have H2_ := (Option.bind_some _ _).symm.trans H; with_reducible exact H2_) | with_reducible exact H | (rw [hy466]; exact H) | exact H
  have Ny466 := Aside0.mk hy466
  clear hy466
  have H' := Aside0.mk H
  clear H
  go_enter Try.func28, Try.ntmps28
  go_wp2_with (first | ((with_reducible refine gate_dst (N := 6) rfl ?_); refine Kd.R_lit (Kd.int .i64) _ 3 ?hg (N := 6) ?hd (xs := ([] : List Int)) (inner := []) (ok := fun _ => True) (okp := fun _ => True) ?hr ?hp (fun _ hk => hk) trivial (Below.refl _ _) (Nat.le_refl _) (by simp) ?_; (case hd => rfl); (case hg => rfl); (case hr => first | (go_simp; done) | (go_simp; rfl)); (case hp => exact (Reps.none _ _)); intro v461 w3 ho4 hb hg_ hnew_; clear hg_ hnew_; (first | rw [← Ny460.out] at ho4 | (simp only [Int.reduceToNat] at ho4; rw [← Ny460.out] at ho4)); have n0_ := Aside0.mk (Kd.R_lower ho4 (below_size (bl HB))); have n1_ := Aside0.mk (below_step (bl HB) hb); clear HB; have HO462 := n0_; have HB := n1_; clear n0_ n1_; clear hb ho4) | ((with_reducible refine gate_dst (N := 7) rfl ?_); refine Kd.R_lit (Kd.int .i64) _ 3 ?hg (N := 7) ?hd (xs := ([] : List Int)) (inner := []) (ok := fun _ => True) (okp := fun _ => True) ?hr ?hp (fun _ hk => hk) trivial (Below.refl _ _) (Nat.le_refl _) (by simp) ?_; (case hd => rfl); (case hg => rfl); (case hr => first | (go_simp; done) | (go_simp; rfl)); (case hp => exact (Reps.none _ _)); intro v464 w5 ho6 hb hg_ hnew_; clear hg_ hnew_; (first | rw [← Ny463.out] at ho6 | (simp only [Int.reduceToNat] at ho6; rw [← Ny463.out] at ho6)); have n0_ := Aside0.mk (Kd.R_elder' (rl HO462) (Kd.R_base ho6) hb); have n1_ := Aside0.mk (Kd.R_lower (Kd.R_new' ho6 (Kd.R_lt (rl HO462))) (below_size (bl HB))); have n2_ := Aside0.mk (below_step (bl HB) hb); clear HO462; clear HB; have HO462 := n0_; have HO465 := n1_; have HB := n2_; clear n0_ n1_ n2_; clear hb ho6) | ((with_reducible refine gate_builtin (b := .append) (xs := #[.tmp 7, .tmp 8]) rfl ?_); at_builtin; refine Kd.R_append_rows (Kd.int .i64) (w0 := w) w.heap.size rfl (.tmp 7) (.tmp 8) 22 3 (.int .i64 0) 8 rfl Try.underlying22 info3 rfl (by decide) (by omega) v464 y463 l0 _ _ _ (fun k_ => some k_ ≠ (v461 : Value).ownBlock) (fun _ => False) rfl rfl ?aO ?aR (fun _ _ h => h) (fun _ h => h.elim) ?aF ?aB ?aS ?aL ?_; (case aR => exact cl (Kd.C_below HR0.out HB.out)); (case aB => exact (bl HB)); (case aF => exact (fun k_ hk => Kd.fresh' (Kd.R_lt (rl HO462)) k_ hk)); (case aO => exact (by (with_reducible repeat (first | apply Kd.R_alloc | apply Kd.R_drewN | apply Kd.R_drew)); exact Kd.R_mono HO465.out (fun _ hk => hk.2))); (case aS => exact (below_size (bl HB))); (case aL => have := LMc2.out; omega); intro v467 w7 ho hb hg hat; rw [← Ny466.out] at ho; have n0_ := Aside0.mk (Kd.R_after (ok := (fun _ => True)) (rl HO462) hg hat); have n1_ := Aside0.mk (hb); have n2_ := Aside0.mk (ho); clear HO462; clear HB; clear HO465; have HO462 := n0_; have HB := n1_; have HO468 := n2_; clear n0_ n1_ n2_; clear ho hb hg hat))
  go_loopg [3] k (fun kq v3 w' => ∃ (x3_1 : List Int) (x4_1 : List Int), Aside0 (gampref05_Simple.l0 kq x3_1 x4_1 = some r) ∧ Aside0 (kq ≤ k) ∧ Aside0 (Kd.R (Kd.int .i64) 3 w' w.heap.size (fun k_ => some k_ ≠ (v467 : Value).ownBlock) v3 x3_1) ∧ Aside0 (Kd.R (Kd.int .i64) 3 w' w.heap.size (fun k_ => some k_ ≠ (v3 : Value).ownBlock) v467 x4_1) ∧ Aside0 (Below w.heap.size w w'))
  case atStart => exact ⟨(y460), (y466), H', ⟨Nat.le_refl _⟩, ⟨by (with_reducible repeat (first | apply Kd.R_alloc | apply Kd.R_drewN | apply Kd.R_drew)); exact Kd.R_mono HO462.out (fun _ hk => hk.2)⟩, ⟨rl HO468⟩, ⟨bl HB⟩⟩
  case round =>
   clear H'
   try clear c2
   try clear p2
   obtain ⟨x3_1, x4_1, HA, HK1, HO_3, HO_4, HB⟩ := hrel
   cases gk with
   | zero => exact absurd HA.out (by simp [gampref05_Simple.l0])
   | succ k1 =>
    have H := HA.out
    clear HA
    simp only [gampref05_Simple.l0] at H
    have H' := Aside0.mk H
    clear H
    go_wp2
    go_loopg [5] k1 (fun kq v5 w' => ∃ (x5_2 : Int), v5 = .int .i64 x5_2 ∧ Aside0 (gampref05_Simple.l1 kq x3_1 x4_1 x5_2 = some r) ∧ Aside0 (kq ≤ k1) ∧ Aside0 (Kd.R (Kd.int .i64) 3 w' w.heap.size (fun k_ => some k_ ≠ (v467 : Value).ownBlock) u3 x3_1) ∧ Aside0 (Kd.R (Kd.int .i64) 3 w' w.heap.size (fun k_ => some k_ ≠ (u3 : Value).ownBlock) v467 x4_1) ∧ Aside0 (Below w.heap.size w w'))
    case atStart => exact ⟨(0), (by first | rfl | (simp; done) | (simp [*]; done)), H', ⟨Nat.le_refl _⟩, ⟨rl HO_3⟩, ⟨rl HO_4⟩, ⟨bl HB⟩⟩
    case round =>
     clear H'
     try clear c2
     try clear p2
     try clear p2
     obtain ⟨x5_2, rfl, HA, HK2, HO_3, HO_4, HB⟩ := hrel
     cases gk with
     | zero => exact absurd HA.out (by simp [gampref05_Simple.l1])
     | succ k2 =>
      have H := HA.out
      clear HA
      simp only [gampref05_Simple.l1] at H
      by_cases c8 : (wrap64 (x5_2 + 1)) < (x4_1.length : Int)
      ·rw [if_pos c8] at H
       have c8b0 : decide ((wrap64 (x5_2 + 1)) < (x4_1.length : Int)) = true := decide_eq_true c8
       clear c8
       by_cases c9 : 0 ≤ x5_2
       ·rw [if_pos c9] at H
        have c9b0 : decide (0 ≤ x5_2) = true := decide_eq_true c9
        clear c9
        by_cases c10 : x5_2 < (x4_1.length : Int)
        ·rw [if_pos c10] at H
         have c10b0 : decide (x5_2 < (x4_1.length : Int)) = true := decide_eq_true c10
         clear c10
         obtain ⟨ji11, hji11⟩ : ∃ j_ : Int, (wrap64 (x5_2 + 1)) = j_ := ⟨_, rfl⟩
         replace H : (if 0 ≤ (ji11) then (if (rd x4_1 x5_2) < (rd x4_1 (ji11)) then (gampref05_Simple.l1 k2 x3_1 x4_1 ji11) else (if (ji11) ≥ (x4_1.length : Int) then (some x3_1) else (if x3_1.length < 17592186044416 then (gampref05_Simple.l0 k2 (x3_1 ++ [ji11]) ((x4_1.set (x5_2 : Int).toNat (rd x4_1 (ji11))).set ((ji11) : Int).toNat (rd x4_1 x5_2))) else (none)))) else (none)) = some r := by first | (rw [hji11] at H; exact H) | (simp only [hji11] at H ⊢; exact H)
         (try rw [hji11] at c8b0)
         have hji11w : (IntKind.i64.wrap (x5_2 + 1)) = ji11 := (i64_w _).trans hji11
         by_cases c12 : 0 ≤ (ji11)
         ·rw [if_pos c12] at H
          have c12b0 : decide (0 ≤ (ji11)) = true := decide_eq_true c12
          clear c12
          by_cases c13 : (rd x4_1 x5_2) < (rd x4_1 (ji11))
          ·rw [if_pos c13] at H
           have c13b0 : decide ((rd x4_1 x5_2) < (rd x4_1 (ji11))) = true := decide_eq_true c13
           clear c13
           have H' := Aside0.mk H
           clear H
           try go_wp2
           have n0_ := Aside0.mk (Kd.R_drew HO_3.out)
           have n1_ := Aside0.mk (Kd.R_drew HO_4.out)
           have n2_ := Aside0.mk (below_drew1 HB.out)
           clear HO_3 HO_4 HB
           have HO_3 := n0_; have HO_4 := n1_; have HB := n2_
           clear n0_ n1_ n2_
           obtain ⟨Ao15, co15, eo15⟩ := Kd.R_slice HO_4.out
           (first | subst eo15 | (injection eo15 with f1_ f2_ f3_; have f4_ := f1_.symm; have f5_ := f3_.symm; clear f1_ f2_ f3_; subst f4_; subst f5_))
           have p469 : 0 ≤ (x5_2 : Int) := ofd
           have q469 : x5_2 < (x4_1.length : Int) := ofd
           obtain ⟨ad469, e469, hx469_0⟩ := Kd.at_int (Kd.R_reads' HO_4.out).2.2 x5_2 p469 q469
           cases e469
           replace p469 := eq_true p469
           replace q469 := eq_true q469
           have p470 : 0 ≤ ((ji11) : Int) := ofd
           have q470 : (ji11) < (x4_1.length : Int) := ofd
           obtain ⟨ad470, e470, hx470_0⟩ := Kd.at_int (Kd.R_reads' HO_4.out).2.2 (ji11) p470 q470
           obtain rfl : ad469 = ad470 := (by injection e470)
           replace p470 := eq_true p470
           replace q470 := eq_true q470
           refine start_ (n := 17) (S := fun w' => w'.cell? (ad469.add (x5_2).toNat) = some (.int .i64 (rd x4_1 x5_2)) ∧ w'.cell? (ad469.add ((ji11)).toNat) = some (.int .i64 (rd x4_1 (ji11)))) (ds := []) #[false, false, false, false, false, false, false, false, false, false, false, false, false, false, false, false, false] (by kernel_rfl) rfl rfl ⟨hx469_0, hx470_0⟩ (fun hHeld => ?_); refine with_tabW gampref05_Simple.tab3 gampref05_Simple.bits3 (fun HT_ HW_ => ?_)
           generalize wr.drew = w14 at HO_3 HO_4 HB hx469_0 hx470_0 hHeld ⊢
           refine pr 0 10 HT_ ?_
           refine pr 1 11 HT_ ?_
           refine pr 2 12 HT_ ?_
           refine pr 3 13 HT_ ?_
           refine pr 4 14 HT_ ?_
           refine pr 5 15 HT_ ?_
           refine pr 6 16 HT_ ?_
           refine pr 7 17 HT_ ?_
           refine pr 8 18 HT_ ?_
           refine pr 10 20 HT_ ?_
           refine pr 11 21 HT_ ?_
           refine pr 12 22 HT_ ?_
           refine pr 13 23 HT_ ?_
           refine tr 9 19 HT_ HW_ hHeld ?_
           refine tr 14 24 HT_ HW_ hHeld ?_
           refine pr 15 25 HT_ ?_
           refine pr 16 26 HT_ ?_
           refine dn HT_ ?_
           try go_wp2
           go_roundg k2
           case measure => have := HK1.out; have := HK2.out; omega
           case rel => exact ⟨(ji11), (by first | rfl | (simp; done) | (simp only [← hji11] <;> (first | rfl | simp)) | (simp [*]; done)), H', ⟨by have := HK1.out; have := HK2.out; omega⟩, ⟨rl HO_3⟩, ⟨rl HO_4⟩, ⟨bl HB⟩⟩
          ·rw [if_neg c13] at H
           have c13b0 : decide ((rd x4_1 x5_2) < (rd x4_1 (ji11))) = false := decide_eq_false c13
           clear c13
           by_cases c16 : (ji11) ≥ (x4_1.length : Int)
           ·rw [if_pos c16] at H
            have c16b0 : decide ((x4_1.length : Int) ≤ (ji11)) = true := decide_eq_true c16
            clear c16
            obtain rfl := Option.some.inj H
            try go_wp2
            have n0_ := Aside0.mk (Kd.R_drew HO_3.out)
            have n1_ := Aside0.mk (Kd.R_drew HO_4.out)
            have n2_ := Aside0.mk (below_drew1 HB.out)
            clear HO_3 HO_4 HB
            have HO_3 := n0_; have HO_4 := n1_; have HB := n2_
            clear n0_ n1_ n2_
            obtain ⟨Ao18, co18, eo18⟩ := Kd.R_slice HO_4.out
            (first | subst eo18 | (injection eo18 with f1_ f2_ f3_; have f4_ := f1_.symm; have f5_ := f3_.symm; clear f1_ f2_ f3_; subst f4_; subst f5_))
            have p469 : 0 ≤ (x5_2 : Int) := ofd
            have q469 : x5_2 < (x4_1.length : Int) := ofd
            obtain ⟨ad469, e469, hx469_0⟩ := Kd.at_int (Kd.R_reads' HO_4.out).2.2 x5_2 p469 q469
            cases e469
            replace p469 := eq_true p469
            replace q469 := eq_true q469
            have p470 : 0 ≤ ((ji11) : Int) := ofd
            have q470 : (ji11) < (x4_1.length : Int) := ofd
            obtain ⟨ad470, e470, hx470_0⟩ := Kd.at_int (Kd.R_reads' HO_4.out).2.2 (ji11) p470 q470
            obtain rfl : ad469 = ad470 := (by injection e470)
            replace p470 := eq_true p470
            replace q470 := eq_true q470
            refine start_ (n := 17) (S := fun w' => w'.cell? (ad469.add (x5_2).toNat) = some (.int .i64 (rd x4_1 x5_2)) ∧ w'.cell? (ad469.add ((ji11)).toNat) = some (.int .i64 (rd x4_1 (ji11)))) (ds := []) #[false, false, false, false, false, false, false, false, false, false, false, false, false, false, false, false, false] (by kernel_rfl) rfl rfl ⟨hx469_0, hx470_0⟩ (fun hHeld => ?_); refine with_tabW gampref05_Simple.tab3 gampref05_Simple.bits3 (fun HT_ HW_ => ?_)
            generalize wr.drew = w17 at HO_3 HO_4 HB hx469_0 hx470_0 hHeld ⊢
            refine pr 0 10 HT_ ?_
            refine pr 1 11 HT_ ?_
            refine pr 2 12 HT_ ?_
            refine pr 3 13 HT_ ?_
            refine pr 4 14 HT_ ?_
            refine pr 5 15 HT_ ?_
            refine pr 6 16 HT_ ?_
            refine pr 7 17 HT_ ?_
            refine pr 8 18 HT_ ?_
            refine pr 10 20 HT_ ?_
            refine pr 11 21 HT_ ?_
            refine pr 12 22 HT_ ?_
            refine pr 13 23 HT_ ?_
            refine tr 9 19 HT_ HW_ hHeld ?_
            refine tr 14 24 HT_ HW_ hHeld ?_
            refine pr 15 25 HT_ ?_
            refine pr 16 26 HT_ ?_
            refine dn HT_ ?_
            try go_wp2
            go_ret
            exact ⟨_, by first | rfl | (simp [errW_none, errW_some] <;> rfl) | (simp only [← hji11]; first | rfl | (simp [errW_none, errW_some] <;> rfl)) | (simp [*, errW_none, errW_some] <;> rfl), by (with_reducible repeat (first | apply Kd.R_alloc | apply Kd.R_drewN | apply Kd.R_drew)); exact Kd.R_mono HO_3.out (fun _ hk => trivial), by repeat (first | (with_reducible first | exact HB.out | apply below_alloc | apply pw_below_drewN | apply below_drew1) | exact HB.out)⟩
           ·rw [if_neg c16] at H
            have c16b0 : decide ((x4_1.length : Int) ≤ (ji11)) = false := decide_eq_false c16
            clear c16
            by_cases c19 : x3_1.length < 17592186044416
            ·rw [if_pos c19] at H
             have LMc19 := Aside0.mk c19
             clear c19
             obtain ⟨y471, hy471⟩ : ∃ y_ : List Int, y_ = (x3_1 ++ [ji11]) := ⟨_, rfl⟩
             replace H : (gampref05_Simple.l0 k2 y471 ((x4_1.set (x5_2 : Int).toNat (rd x4_1 (ji11))).set ((ji11) : Int).toNat (rd x4_1 x5_2))) = some r := by first | (rw [hy471]; with_reducible exact H) | (have H2_ := (Option.bind_some _ _).symm.trans H; rw [hy471]; with_reducible exact H2_) | (have H2_ := (Option.bind_some _ _).symm.trans H; with_reducible exact H2_) | with_reducible exact H | (rw [hy471]; exact H) | exact H
             have Ny471 := Aside0.mk hy471
             clear hy471
             obtain ⟨y476, hy476⟩ : ∃ y_ : List Int, y_ = (x4_1.set (x5_2 : Int).toNat (rd x4_1 (ji11))) := ⟨_, rfl⟩
             replace H : (gampref05_Simple.l0 k2 y471 (y476.set ((ji11) : Int).toNat (rd x4_1 x5_2))) = some r := by first | (rw [hy476]; with_reducible exact H) | (have H2_ := (Option.bind_some _ _).symm.trans H; rw [hy476]; with_reducible exact H2_) | (have H2_ := (Option.bind_some _ _).symm.trans H; with_reducible exact H2_) | with_reducible exact H | (rw [hy476]; exact H) | exact H
             have Ny476 := Aside0.mk hy476
             clear hy476
             obtain ⟨y477, hy477⟩ : ∃ y_ : List Int, y_ = (y476.set ((ji11) : Int).toNat (rd x4_1 x5_2)) := ⟨_, rfl⟩
             replace H : (gampref05_Simple.l0 k2 y471 y477) = some r := by first | (rw [hy477]; with_reducible exact H) | (have H2_ := (Option.bind_some _ _).symm.trans H; rw [hy477]; with_reducible exact H2_) | (have H2_ := (Option.bind_some _ _).symm.trans H; with_reducible exact H2_) | with_reducible exact H | (rw [hy477]; exact H) | exact H
             have Ny477 := Aside0.mk hy477
             clear hy477
             have H' := Aside0.mk H
             clear H
             try go_wp2
             have n0_ := Aside0.mk (Kd.R_drew HO_3.out)
             have n1_ := Aside0.mk (Kd.R_drew HO_4.out)
             have n2_ := Aside0.mk (below_drew1 HB.out)
             clear HO_3 HO_4 HB
             have HO_3 := n0_; have HO_4 := n1_; have HB := n2_
             clear n0_ n1_ n2_
             obtain ⟨Ao23, co23, eo23⟩ := Kd.R_slice HO_4.out
             (first | subst eo23 | (injection eo23 with f1_ f2_ f3_; have f4_ := f1_.symm; have f5_ := f3_.symm; clear f1_ f2_ f3_; subst f4_; subst f5_))
             have p469 : 0 ≤ (x5_2 : Int) := ofd
             have q469 : x5_2 < (x4_1.length : Int) := ofd
             obtain ⟨ad469, e469, hx469_0⟩ := Kd.at_int (Kd.R_reads' HO_4.out).2.2 x5_2 p469 q469
             cases e469
             replace p469 := eq_true p469
             replace q469 := eq_true q469
             have p470 : 0 ≤ ((ji11) : Int) := ofd
             have q470 : (ji11) < (x4_1.length : Int) := ofd
             obtain ⟨ad470, e470, hx470_0⟩ := Kd.at_int (Kd.R_reads' HO_4.out).2.2 (ji11) p470 q470
             obtain rfl : ad469 = ad470 := (by injection e470)
             replace p470 := eq_true p470
             replace q470 := eq_true q470
             refine start_ (n := 17) (S := fun w' => w'.cell? (ad469.add (x5_2).toNat) = some (.int .i64 (rd x4_1 x5_2)) ∧ w'.cell? (ad469.add ((ji11)).toNat) = some (.int .i64 (rd x4_1 (ji11)))) (ds := []) #[false, false, false, false, false, false, false, false, false, false, false, false, false, false, false, false, false] (by kernel_rfl) rfl rfl ⟨hx469_0, hx470_0⟩ (fun hHeld => ?_); refine with_tabW gampref05_Simple.tab3 gampref05_Simple.bits3 (fun HT_ HW_ => ?_)
             generalize wr.drew = w22 at HO_3 HO_4 HB hx469_0 hx470_0 hHeld ⊢
             refine pr 0 10 HT_ ?_
             refine pr 1 11 HT_ ?_
             refine pr 2 12 HT_ ?_
             refine pr 3 13 HT_ ?_
             refine pr 4 14 HT_ ?_
             refine pr 5 15 HT_ ?_
             refine pr 6 16 HT_ ?_
             refine pr 7 17 HT_ ?_
             refine pr 8 18 HT_ ?_
             refine pr 10 20 HT_ ?_
             refine pr 11 21 HT_ ?_
             refine pr 12 22 HT_ ?_
             refine pr 13 23 HT_ ?_
             refine tr 9 19 HT_ HW_ hHeld ?_
             refine tr 14 24 HT_ HW_ hHeld ?_
             refine pr 15 25 HT_ ?_
             refine pr 16 26 HT_ ?_
             refine dn HT_ ?_
             try go_wp2_with (first | ((with_reducible refine gate_builtin (b := .append) (xs := #[.tmp 35, .tmp 38]) rfl ?_); at_builtin; refine Kd.R_append (Kd.int .i64) (w0 := w) w.heap.size rfl (.tmp 35) (.tmp 38) 22 3 (.int .i64 0) 8 rfl Try.underlying22 info3 rfl (by decide) (by omega) u3 x3_1 ji11 [.int .i64 ji11] (fun k_ => some k_ ≠ (.slice (some ad469) x4_1.length co23 : Value).ownBlock) (fun _ => False) rfl rfl ?aP (fun _ hk => hk.elim) ?aF ?aO ?aB ?aS ?aL ?_; (case aP => exact rfl); (case aB => exact (bl HB)); (case aF => exact (fun k_ hk => Kd.fresh' (Kd.R_lt (rl HO_4)) k_ hk)); (case aO => exact (rl HO_3)); (case aS => exact (below_size (bl HB))); (case aL => have := LMc19.out; omega); intro v472 w24 ho hb hg hat; rw [← Ny471.out] at ho; have n0_ := Aside0.mk (Kd.R_after (ok := (fun _ => True)) (by (with_reducible repeat (first | apply Kd.R_alloc | apply Kd.R_drewN | apply Kd.R_drew)); exact Kd.R_mono HO_4.out (fun _ hk => ⟨trivial, hk⟩)) hg hat); have n1_ := Aside0.mk (hb); have n2_ := Aside0.mk (ho); clear HO_4; clear HB; clear HO_3; have HO_4 := n0_; have HB := n1_; have HO473 := n2_; clear n0_ n1_ n2_; clear ho hb hg hat))
             have n0_ := Aside0.mk (Kd.R_drew HO_4.out)
             have n1_ := Aside0.mk (Kd.R_drew HO473.out)
             have n2_ := Aside0.mk (below_drew1 HB.out)
             clear HO_4 HO473 HB
             have HO_4 := n0_; have HO473 := n1_; have HB := n2_
             clear n0_ n1_ n2_
             have p474 : 0 ≤ ((ji11) : Int) := ofd
             have q474 : (ji11) < (x4_1.length : Int) := ofd
             obtain ⟨ad474, e474, hx474_0⟩ := Kd.at_int (Kd.R_reads' HO_4.out).2.2 (ji11) p474 q474
             obtain rfl : ad469 = ad474 := (by injection e474)
             replace p474 := eq_true p474
             replace q474 := eq_true q474
             have p475 : 0 ≤ (x5_2 : Int) := ofd
             have q475 : x5_2 < (x4_1.length : Int) := ofd
             obtain ⟨ad475, e475, hx475_0⟩ := Kd.at_int (Kd.R_reads' HO_4.out).2.2 x5_2 p475 q475
             obtain rfl : ad469 = ad475 := (by injection e475)
             replace p475 := eq_true p475
             replace q475 := eq_true q475
             have p20 : 0 ≤ (x5_2 : Int) := ofd
             have q20 : (x5_2 : Int) < ((x4_1.length : Int) : Int) := ofd
             obtain ⟨go20, co20, eo20, gb20, gl20, cl20, HG20⟩ := Kd.R_form HO_4.out (by omega)
             (first | cases eo20 | (injection eo20 with ea_ en_ ec_; (first | subst ea_ | (injection ea_ with ea_; subst ea_)); subst ec_; clear en_))
             have GB20 := Aside0.mk gb20
             have GG20 := Aside0.mk HG20
             clear gb20 gl20 HG20
             (first | simp only [add_plain] at hx469_0 | skip)
             (first | simp only [add_plain] at hx470_0 | skip)
             (first | simp only [add_plain] at hx474_0 | skip)
             (first | simp only [add_plain] at hx475_0 | skip)
             obtain ⟨hx20_0, hf20_0⟩ := Kd.R_celln 0 HO_4.out (x5_2 : Int) p20 q20
             replace p20 := eq_true p20
             replace q20 := eq_true q20
             have HP26 := Kd.R_putn HO_4.out (x5_2 : Int) (rd x4_1 (ji11))
             rw [← Ny476.out] at HP26
             have HQ26 := Aside0.mk HP26
             clear HP26
             have p21 : 0 ≤ ((ji11) : Int) := ofd
             have q21 : ((ji11) : Int) < ((x4_1.length : Int) : Int) := ofd
             obtain ⟨hx21_0, hf21_0⟩ := Kd.R_celln 0 HQ26.out ((ji11) : Int) p21 q21
             replace p21 := eq_true p21
             replace q21 := eq_true q21
             have HP27 := Kd.R_putn HQ26.out ((ji11) : Int) (rd x4_1 x5_2)
             rw [← Ny477.out] at HP27
             have HQ27 := Aside0.mk HP27
             clear HP27
             refine start_ (n := 18) (S := fun w' => w'.cell? ⟨go20, ((ji11)).toNat, none⟩ = some (.int .i64 (rd x4_1 (ji11))) ∧ w'.cell? ⟨go20, (x5_2).toNat, none⟩ = some (.int .i64 (rd x4_1 x5_2))) (ds := [15, 17]) #[false, false, false, false, false, false, false, false, false, false, false, false, false, false, false, false, false, false] (by kernel_rfl) rfl rfl ⟨hx474_0, hx475_0⟩ (fun hHeld => ?_); refine with_tabW gampref05_Simple.tab8 gampref05_Simple.bits8 (fun HT_ HW_ => ?_)
             generalize w24.drew = w25 at HO_4 HO473 HB GG20 HQ26 HQ27 hf20_0 hf21_0 hx20_0 hx21_0 hx469_0 hx470_0 hx474_0 hx475_0 hHeld ⊢
             refine pr 0 40 HT_ ?_
             refine pr 1 41 HT_ ?_
             refine pr 2 42 HT_ ?_
             refine pr 3 43 HT_ ?_
             refine pr 4 44 HT_ ?_
             refine pr 5 45 HT_ ?_
             refine pr 6 46 HT_ ?_
             refine pr 7 47 HT_ ?_
             refine pr 8 48 HT_ ?_
             refine pr 10 50 HT_ ?_
             refine pr 11 51 HT_ ?_
             refine pr 12 52 HT_ ?_
             refine tr 9 49 HT_ HW_ hHeld ?_
             refine tr 13 53 HT_ HW_ hHeld ?_
             refine pr 14 54 HT_ ?_
             refine la 15 (none) HT_ (fun K hK => ?_)
             refine sk ?_
             refine hK.out _ _ ?_
             clear hK K
             refine pr 16 55 HT_ ?_
             refine la 17 (none) HT_ (fun K hK => ?_)
             refine sk ?_
             refine hK.out _ _ ?_
             clear hK K
             refine dn HT_ ?_
             try go_wp2
             go_roundg k2
             case measure => have := HK1.out; have := HK2.out; omega
             case rel => exact ⟨(y471), (y477), H', ⟨by have := HK1.out; have := HK2.out; omega⟩, ⟨by (with_reducible repeat (first | apply Kd.R_alloc | apply Kd.R_drewN | apply Kd.R_drew)); exact Kd.R_mono (Kd.R_far (p := ⟨go20, ((ji11) : Int).toNat, none⟩) (Kd.R_far (p := ⟨go20, (x5_2 : Int).toNat, none⟩) (Kd.R_mono HO473.out (fun k_ hk => (⟨hk, fun e_ => hk (by rw [e_]; rfl)⟩ : _ ∧ k_ ≠ go20))) (fun _ hk => hk.2) (.int .i64 (rd x4_1 (ji11)))) (fun _ hk => hk.2) (.int .i64 (rd x4_1 x5_2))) (fun _ hk => hk.1)⟩, ⟨by (with_reducible repeat (first | apply Kd.R_alloc | apply Kd.R_drewN | apply Kd.R_drew)); exact Kd.R_mono HQ27.out (fun _ hk => hk.2)⟩, ⟨bl HB⟩⟩
            ·rw [if_neg c19] at H
             exact absurd H (by simp)
         ·rw [if_neg c12] at H
          exact absurd H (by simp)
        ·rw [if_neg c10] at H
         exact absurd H (by simp)
       ·rw [if_neg c9] at H
        exact absurd H (by simp)
      ·rw [if_neg c8] at H
       have c8b0 : decide ((wrap64 (x5_2 + 1)) < (x4_1.length : Int)) = false := decide_eq_false c8
       clear c8
       by_cases c28 : (wrap64 (x5_2 + 1)) ≥ (x4_1.length : Int)
       ·rw [if_pos c28] at H
        have c28b0 : decide ((x4_1.length : Int) ≤ (wrap64 (x5_2 + 1))) = true := decide_eq_true c28
        clear c28
        obtain rfl := Option.some.inj H
        try go_wp2
        have n0_ := Aside0.mk (Kd.R_drew HO_3.out)
        have n1_ := Aside0.mk (Kd.R_drew HO_4.out)
        have n2_ := Aside0.mk (below_drew1 HB.out)
        clear HO_3 HO_4 HB
        have HO_3 := n0_; have HO_4 := n1_; have HB := n2_
        clear n0_ n1_ n2_
        obtain ⟨Ao30, co30, eo30⟩ := Kd.R_slice HO_4.out
        (first | subst eo30 | (injection eo30 with f1_ f2_ f3_; have f4_ := f1_.symm; have f5_ := f3_.symm; clear f1_ f2_ f3_; subst f4_; subst f5_))
        refine start_ (n := 17) (S := fun w' => True) (ds := []) #[false, false, false, false, false, false, false, false, false, false, false, false, false, false, false, false, false] (by kernel_rfl) rfl rfl trivial (fun hHeld => ?_); refine with_tabW gampref05_Simple.tab3 gampref05_Simple.bits3 (fun HT_ HW_ => ?_)
        generalize wr.drew = w29 at HO_3 HO_4 HB hHeld ⊢
        refine pr 0 10 HT_ ?_
        refine pr 1 11 HT_ ?_
        refine pr 2 12 HT_ ?_
        refine pr 3 13 HT_ ?_
        refine pr 4 14 HT_ ?_
        refine pr 5 15 HT_ ?_
        refine pure_ (i := 6) (N := some 16) (v := undef) (a' := ?_) #[true, true, true, true, true, true, true, false, false, false, false, false, false, false, false, false, false] rfl rfl (any_of HT_.out (by kernel_rfl)) (fun _ _ _ h => h) (Or.inr ⟨by rfl, rfl⟩) ?_ ?_
        rotate_left
        ·simp only [Act.put, List.setIfInBounds_toArray, List.set_cons_zero, List.set_cons_succ, i64_w, i32_w]
         rfl
        refine pure_ (i := 7) (N := some 17) (v := undef) (a' := ?_) #[true, true, true, true, true, true, true, true, false, false, false, false, false, false, false, false, false] rfl rfl (any_of HT_.out (by kernel_rfl)) (fun _ _ _ h => h) (Or.inr ⟨by rfl, rfl⟩) ?_ ?_
        rotate_left
        ·simp only [Act.put, List.setIfInBounds_toArray, List.set_cons_zero, List.set_cons_succ, i64_w, i32_w]
         rfl
        refine pure_ (i := 8) (N := some 18) (v := undef) (a' := ?_) #[true, true, true, true, true, true, true, true, true, false, false, false, false, false, false, false, false] rfl rfl (any_of HT_.out (by kernel_rfl)) (fun _ _ _ h => h) (Or.inr ⟨by rfl, rfl⟩) ?_ ?_
        rotate_left
        ·simp only [Act.put, List.setIfInBounds_toArray, List.set_cons_zero, List.set_cons_succ, i64_w, i32_w]
         rfl
        refine pure_ (i := 9) (N := some 19) (v := undef) (a' := ?_) #[true, true, true, true, true, true, true, true, true, true, false, false, false, false, false, false, false] rfl rfl (any_of HT_.out (by kernel_rfl)) (fun _ _ _ h => h) (Or.inr ⟨by rfl, rfl⟩) ?_ ?_
        rotate_left
        ·simp only [Act.put, List.setIfInBounds_toArray, List.set_cons_zero, List.set_cons_succ, i64_w, i32_w]
         rfl
        refine pure_ (i := 10) (N := some 20) (v := undef) (a' := ?_) #[true, true, true, true, true, true, true, true, true, true, true, false, false, false, false, false, false] rfl rfl (any_of HT_.out (by kernel_rfl)) (fun _ _ _ h => h) (Or.inr ⟨by rfl, rfl⟩) ?_ ?_
        rotate_left
        ·simp only [Act.put, List.setIfInBounds_toArray, List.set_cons_zero, List.set_cons_succ, i64_w, i32_w]
         rfl
        refine pure_ (i := 11) (N := some 21) (v := undef) (a' := ?_) #[true, true, true, true, true, true, true, true, true, true, true, true, false, false, false, false, false] rfl rfl (any_of HT_.out (by kernel_rfl)) (fun _ _ _ h => h) (Or.inr ⟨by rfl, rfl⟩) ?_ ?_
        rotate_left
        ·simp only [Act.put, List.setIfInBounds_toArray, List.set_cons_zero, List.set_cons_succ, i64_w, i32_w]
         rfl
        refine pure_ (i := 12) (N := some 22) (v := undef) (a' := ?_) #[true, true, true, true, true, true, true, true, true, true, true, true, true, false, false, false, false] rfl rfl (any_of HT_.out (by kernel_rfl)) (fun _ _ _ h => h) (Or.inr ⟨by rfl, rfl⟩) ?_ ?_
        rotate_left
        ·simp only [Act.put, List.setIfInBounds_toArray, List.set_cons_zero, List.set_cons_succ, i64_w, i32_w]
         rfl
        refine pure_ (i := 13) (N := some 23) (v := undef) (a' := ?_) #[true, true, true, true, true, true, true, true, true, true, true, true, true, true, false, false, false] rfl rfl (any_of HT_.out (by kernel_rfl)) (fun _ _ _ h => h) (Or.inr ⟨by rfl, rfl⟩) ?_ ?_
        rotate_left
        ·simp only [Act.put, List.setIfInBounds_toArray, List.set_cons_zero, List.set_cons_succ, i64_w, i32_w]
         rfl
        refine pure_ (i := 14) (N := some 24) (v := undef) (a' := ?_) #[true, true, true, true, true, true, true, true, true, true, true, true, true, true, true, false, false] rfl rfl (any_of HT_.out (by kernel_rfl)) (fun _ _ _ h => h) (Or.inr ⟨by rfl, rfl⟩) ?_ ?_
        rotate_left
        ·simp only [Act.put, List.setIfInBounds_toArray, List.set_cons_zero, List.set_cons_succ, i64_w, i32_w]
         rfl
        refine pure_ (i := 15) (N := some 25) (v := undef) (a' := ?_) #[true, true, true, true, true, true, true, true, true, true, true, true, true, true, true, true, false] rfl rfl (any_of HT_.out (by kernel_rfl)) (fun _ _ _ h => h) (Or.inr ⟨by rfl, rfl⟩) ?_ ?_
        rotate_left
        ·simp only [Act.put, List.setIfInBounds_toArray, List.set_cons_zero, List.set_cons_succ, i64_w, i32_w]
         rfl
        refine pr 16 26 HT_ ?_
        refine dn HT_ ?_
        try go_wp2
        go_ret
        exact ⟨_, by first | rfl | (simp [errW_none, errW_some] <;> rfl) | (simp [*, errW_none, errW_some] <;> rfl), by (with_reducible repeat (first | apply Kd.R_alloc | apply Kd.R_drewN | apply Kd.R_drew)); exact Kd.R_mono HO_3.out (fun _ hk => trivial), by repeat (first | (with_reducible first | exact HB.out | apply below_alloc | apply pw_below_drewN | apply below_drew1) | exact HB.out)⟩
       ·rw [if_neg c28] at H
        have c28b0 : decide ((x4_1.length : Int) ≤ (wrap64 (x5_2 + 1))) = false := decide_eq_false c28
        clear c28
        by_cases c31 : x3_1.length < 17592186044416
        ·rw [if_pos c31] at H
         have LMc31 := Aside0.mk c31
         clear c31
         obtain ⟨y478, hy478⟩ : ∃ y_ : List Int, y_ = (x3_1 ++ [wrap64 (x5_2 + 1)]) := ⟨_, rfl⟩
         replace H : (if 0 ≤ (wrap64 (x5_2 + 1)) then (none) else (none)) = some r := by first | (rw [hy478]; with_reducible exact H) | (have H2_ := (Option.bind_some _ _).symm.trans H; rw [hy478]; with_reducible exact H2_) | (have H2_ := (Option.bind_some _ _).symm.trans H; with_reducible exact H2_) | with_reducible exact H | (rw [hy478]; exact H) | exact H
         have Ny478 := Aside0.mk hy478
         clear hy478
         obtain ⟨ji32, hji32⟩ : ∃ j_ : Int, (wrap64 (x5_2 + 1)) = j_ := ⟨_, rfl⟩
         replace H : (if 0 ≤ (ji32) then (none) else (none)) = some r := by first | (rw [hji32] at H; exact H) | (simp only [hji32] at H ⊢; exact H)
         (try rw [hji32] at c8b0)
         (try rw [hji32] at c28b0)
         (try rw [hji32] at Ny478)
         have hji32w : (IntKind.i64.wrap (x5_2 + 1)) = ji32 := (i64_w _).trans hji32
         by_cases c33 : 0 ≤ (ji32)
         ·rw [if_pos c33] at H
          exact absurd H (by simp)
         ·rw [if_neg c33] at H
          exact absurd H (by simp)
        ·rw [if_neg c31] at H
         exact absurd H (by simp)
 ·rw [if_neg c2] at H
  exact absurd H (by simp)
end Go.Proofs.Ytdldfdcedjmneaa.Lx

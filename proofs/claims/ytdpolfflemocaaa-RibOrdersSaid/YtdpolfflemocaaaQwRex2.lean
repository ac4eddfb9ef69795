/- The declarations of Rex2 that the claim Qw needs. -/
import Derived.Test.YtdpolfflemocaaaQwTkP
import Derived.Test.YtdpolfflemocaaaQwRex0
namespace Go.Proofs.Ytdpolfflemocaaa.Re
open Go.RowKit Go.Proofs.Ytdpolfflemocaaa.Own Go.Proofs.Ytdpolfflemocaaa.Rx Go.Proofs.YtdpolfflemocaaaW.PrintWords Go.Proofs.YtdpolfflemocaaaW.PrintLast Go.Proofs.YtdpolfflemocaaaW.PrintMore
attribute [local go_sem] max2_int min2_int max_two min_two max_three min_three max_four min_four
set_option linter.unusedVariables false
set_option linter.unusedSimpArgs false
mutual
def gampref04_Ring.l0 : Nat → List (S52) → List Int → Int → Option (Bool)
  | 0, _, _, _ => none
  | k + 1, x0, x1, x5 => if x5 < (x1.length : Int) then (gampref04_Ring.l1 k x0 x1 x5 0) else (some true)
def gampref04_Ring.l1 : Nat → List (S52) → List Int → Int → Int → Option (Bool)
  | 0, _, _, _, _ => none
  | k + 1, x0, x1, x5, x6 => if x6 < x5 then (if (wrap64 (x5 - x6)) = 1 then (if 0 ≤ x5 then (if x5 < (x1.length : Int) then (if 0 ≤ x6 then (if x6 < (x1.length : Int) then (if (rd x1 x5) = (rd x1 x6) then (some false) else ((Rx.gampref04_Near.f k x0 (rd x1 x5) (rd x1 x6)).bind fun t116 => (if (true != t116) = true then (some false) else (gampref04_Ring.l1 k x0 x1 x5 (wrap64 (x6 + 1)))))) else (none)) else (none)) else (none)) else (none)) else (if x6 = 0 then (if 0 ≤ x5 then (if x5 < (x1.length : Int) then (if 0 ≤ x6 then (if x6 < (x1.length : Int) then (if (rd x1 x5) = (rd x1 x6) then (some false) else ((Rx.gampref04_Near.f k x0 (rd x1 x5) (rd x1 x6)).bind fun t121 => (if ((x5 == (wrap64 ((x1.length : Int) - 1))) != t121) = true then (some false) else (gampref04_Ring.l1 k x0 x1 x5 (wrap64 (x6 + 1)))))) else (none)) else (none)) else (none)) else (none)) else (if 0 ≤ x5 then (if x5 < (x1.length : Int) then (if 0 ≤ x6 then (if x6 < (x1.length : Int) then (if (rd x1 x5) = (rd x1 x6) then (some false) else ((Rx.gampref04_Near.f k x0 (rd x1 x5) (rd x1 x6)).bind fun t126 => (if (false != t126) = true then (some false) else (gampref04_Ring.l1 k x0 x1 x5 (wrap64 (x6 + 1)))))) else (none)) else (none)) else (none)) else (none)))) else (gampref04_Ring.l0 k x0 x1 (wrap64 (x5 + 1)))
end
def gampref04_Ring.f (k : Nat) (l0 : List (S52)) (l1 : List Int) : Option (Bool) := if (l1.length : Int) < 4 then (some false) else (gampref04_Ring.l0 k l0 l1 0)
def gampref04_Ring.T10 : Bool × List (List Nat × List Nat) := (true, [([], []), ([], []), ([0, 1], [0, 1]), ([2], [2]), ([], []), ([], []), ([4, 5], [4, 5]), ([6], [6]), ([3, 7], [3, 7]), ([8], [8]), ([9], [9]), ([9], [9]), ([9], [9]), ([9], [9]), ([12, 13, 9], [9, 12, 13]), ([14, 9], [9, 14]), ([9], [9]), ([9], [9]), ([16, 17, 9], [9, 16, 17]), ([18, 9], [9, 18]), ([11, 15, 19, 9, 9], [9, 11, 15, 19]), ([10, 20, 9], [9, 10, 20]), ([9, 21], [9, 21])])
def gampref04_Ring.B10 : List Nat := [0, 0, 3, 7, 0, 0, 48, 112, 255, 511, 1023, 1023, 1023, 1023, 13311, 29695, 1023, 1023, 197631, 459775, 1047551, 2097151, 4194303]
theorem gampref04_Ring.tab10 : rtab .any (opsOf Try.f29 10) = gampref04_Ring.T10 := by kernel_rfl
theorem gampref04_Ring.bits10 : waitsOk gampref04_Ring.T10.2 gampref04_Ring.B10 = true := by kernel_rfl
set_option maxHeartbeats 8000000 in
set_option maxRecDepth 100000 in
theorem gampref04_Ring.calls (k : Nat) (A0 : Option Addr) (c0 : Nat) (l0 : List (S52)) (A1 : Option Addr) (c1 : Nat) (l1 : List Int) (r : Bool) (w : World) (hr0 : Kd.C k52 w A0 l0.length l0) (hc0 : l0.length ≤ c0) (hr1 : Kd.C (Kd.int .i64) w A1 l1.length l1) (hc1 : l1.length ≤ c1) (h : gampref04_Ring.f k l0 l1 = some r) :
  Calls Try.prog 29 #[.slice A0 l0.length c0, .slice A1 l1.length c1] w fun e w' => e = .returned (.bool r) ∧ Below w.heap.size w w' := by
 have HR0 := Aside0.mk hr0
 have HC0 := Aside0.mk hc0
 clear hr0 hc0
 have HR1 := Aside0.mk hr1
 have HC1 := Aside0.mk hc1
 clear hr1 hc1
 have HB := Aside0.mk (Below.refl w.heap.size w)
 have H : (if (l1.length : Int) < 4 then (some false) else (gampref04_Ring.l0 k l0 l1 0)) = some r := h
 clear h
 by_cases c3 : (l1.length : Int) < 4
 ·rw [if_pos c3] at H
  have c3b0 : decide ((l1.length : Int) < 4) = true := decide_eq_true c3
  have c3b1 : decide (l1.length < 4) = true := decide_eq_true (by omega)
  clear c3
  obtain rfl := Option.some.inj H
  go_enter Try.func29, Try.ntmps29
  go_wp2
  go_ret
  exact ⟨by first | rfl | (simp [errW_none, errW_some] <;> rfl) | (simp [*, errW_none, errW_some] <;> rfl), by repeat (first | (with_reducible first | exact HB.out | apply below_alloc | apply pw_below_drewN | apply below_drew1) | exact HB.out)⟩
 ·rw [if_neg c3] at H
  have c3b0 : decide ((l1.length : Int) < 4) = false := decide_eq_false c3
  have c3b1 : decide (l1.length < 4) = false := decide_eq_false (by omega)
  clear c3
  have H' := Aside0.mk H
  clear H
  go_enter Try.func29, Try.ntmps29
  go_wp2
  go_loopg [5] k (fun kq v5 w' => ∃ (x5_1 : Int), v5 = .int .i64 x5_1 ∧ Aside0 (gampref04_Ring.l0 kq l0 l1 x5_1 = some r) ∧ Aside0 (kq ≤ k) ∧ Aside0 (Below w.heap.size w w'))
  case atStart => exact ⟨(0), (by first | rfl | (simp; done) | (simp [*]; done)), H', ⟨Nat.le_refl _⟩, ⟨bl HB⟩⟩
  case round =>
   clear H'
   try clear c1
   try clear c2
   try clear p2
   try clear c3
   try clear c3b0
   try clear c3b1
   obtain ⟨x5_1, rfl, HA, HK1, HB⟩ := hrel
   cases gk with
   | zero => exact absurd HA.out (by simp [gampref04_Ring.l0])
   | succ k1 =>
    have H := HA.out
    clear HA
    simp only [gampref04_Ring.l0] at H
    by_cases c4 : x5_1 < (l1.length : Int)
    ·rw [if_pos c4] at H
     have c4b0 : decide (x5_1 < (l1.length : Int)) = true := decide_eq_true c4
     clear c4
     have H' := Aside0.mk H
     clear H
     go_wp2
     go_loopg [6] k1 (fun kq v6 w' => ∃ (x6_2 : Int), v6 = .int .i64 x6_2 ∧ Aside0 (gampref04_Ring.l1 kq l0 l1 x5_1 x6_2 = some r) ∧ Aside0 (kq ≤ k1) ∧ Aside0 (Below w.heap.size w w'))
     case atStart => exact ⟨(0), (by first | rfl | (simp; done) | (simp [*]; done)), H', ⟨Nat.le_refl _⟩, ⟨bl HB⟩⟩
     case round =>
      clear H'
      try clear c1
      try clear c2
      try clear p2
      try clear c3
      try clear c3b0
      try clear c3b1
      try clear c4
      try clear c4b0
      try clear p2
      obtain ⟨x6_2, rfl, HA, HK2, HB⟩ := hrel
      cases gk with
      | zero => exact absurd HA.out (by simp [gampref04_Ring.l1])
      | succ k2 =>
       have H := HA.out
       clear HA
       simp only [gampref04_Ring.l1] at H
       by_cases c5 : x6_2 < x5_1
       ·rw [if_pos c5] at H
        have c5b0 : decide (x6_2 < x5_1) = true := decide_eq_true c5
        clear c5
        by_cases c6 : (wrap64 (x5_1 - x6_2)) = 1
        ·rw [if_pos c6] at H
         have c6b0 : ((wrap64 (x5_1 - x6_2)) == 1) = true := beq_iff_eq.mpr c6
         have c6b1 : ((wrap64 (x5_1 - x6_2)) != 1) = false := bne_eq_false_iff_eq.mpr c6
         clear c6
         by_cases c7 : 0 ≤ x5_1
         ·rw [if_pos c7] at H
          have c7b0 : decide (0 ≤ x5_1) = true := decide_eq_true c7
          clear c7
          by_cases c8 : x5_1 < (l1.length : Int)
          ·rw [if_pos c8] at H
           have c8b0 : decide (x5_1 < (l1.length : Int)) = true := decide_eq_true c8
           clear c8
           by_cases c9 : 0 ≤ x6_2
           ·rw [if_pos c9] at H
            have c9b0 : decide (0 ≤ x6_2) = true := decide_eq_true c9
            clear c9
            by_cases c10 : x6_2 < (l1.length : Int)
            ·rw [if_pos c10] at H
             have c10b0 : decide (x6_2 < (l1.length : Int)) = true := decide_eq_true c10
             clear c10
             by_cases c11 : (rd l1 x5_1) = (rd l1 x6_2)
             ·rw [if_pos c11] at H
              have c11b0 : ((rd l1 x5_1) == (rd l1 x6_2)) = true := beq_iff_eq.mpr c11
              have c11b1 : ((rd l1 x5_1) != (rd l1 x6_2)) = false := bne_eq_false_iff_eq.mpr c11
              clear c11
              obtain rfl := Option.some.inj H
              try go_wp2
              have n0_ := Aside0.mk (below_drew1 HB.out)
              clear HB
              have HB := n0_
              clear n0_
              have p112 : 0 ≤ (x5_1 : Int) := ofd
              have q112 : x5_1 < (l1.length : Int) := ofd
              obtain ⟨ad112, e112, hx112_0⟩ := Kd.at_int HR1.out x5_1 p112 q112
              have hw112_0 := hx112_0
              cases e112
              replace hx112_0 := (HB.out.cell (World.block_lt_of_cell? w _ hx112_0)).trans hx112_0
              replace p112 := eq_true p112
              replace q112 := eq_true q112
              have p113 : 0 ≤ (x6_2 : Int) := ofd
              have q113 : x6_2 < (l1.length : Int) := ofd
              obtain ⟨ad113, e113, hx113_0⟩ := Kd.at_int HR1.out x6_2 p113 q113
              have hw113_0 := hx113_0
              obtain rfl : ad112 = ad113 := (by injection e113)
              replace hx113_0 := (HB.out.cell (World.block_lt_of_cell? w _ hx113_0)).trans hx113_0
              replace p113 := eq_true p113
              replace q113 := eq_true q113
              refine start_ (n := 23) (S := fun w' => w'.cell? (ad112.add (x5_1).toNat) = some (.int .i64 (rd l1 x5_1)) ∧ w'.cell? (ad112.add (x6_2).toNat) = some (.int .i64 (rd l1 x6_2))) (ds := []) #[false, false, false, false, false, false, false, false, false, false, false, false, false, false, false, false, false, false, false, false, false, false, false] (by kernel_rfl) rfl rfl ⟨((HB.out.cell (World.block_lt_of_cell? w _ hw112_0)).trans hw112_0), ((HB.out.cell (World.block_lt_of_cell? w _ hw113_0)).trans hw113_0)⟩ (fun hHeld => ?_); refine with_tabW gampref04_Ring.tab10 gampref04_Ring.bits10 (fun HT_ HW_ => ?_)
              generalize wr.drew = w12 at HB hx112_0 hx113_0 hHeld ⊢
              refine pr 0 37 HT_ ?_
              refine pr 1 38 HT_ ?_
              refine pr 2 39 HT_ ?_
              refine pr 4 41 HT_ ?_
              refine pr 5 42 HT_ ?_
              refine pr 6 43 HT_ ?_
              refine tr 3 40 HT_ HW_ hHeld ?_
              refine tr 7 44 HT_ HW_ hHeld ?_
              refine pr 8 45 HT_ ?_
              refine pr 9 46 HT_ ?_
              refine pure_ (i := 10) (N := some 47) (v := undef) (a' := ?_) #[true, true, true, true, true, true, true, true, true, true, true, false, false, false, false, false, false, false, false, false, false, false, false] rfl rfl (any_of HT_.out (by kernel_rfl)) (fun _ _ _ h => h) (Or.inr ⟨by rfl, rfl⟩) ?_ ?_
              rotate_left
              ·simp only [Act.put, List.setIfInBounds_toArray, List.set_cons_zero, List.set_cons_succ, i64_w, i32_w]
               rfl
              refine pure_ (i := 11) (N := some 48) (v := undef) (a' := ?_) #[true, true, true, true, true, true, true, true, true, true, true, true, false, false, false, false, false, false, false, false, false, false, false] rfl rfl (any_of HT_.out (by kernel_rfl)) (fun _ _ _ h => h) (Or.inr ⟨by rfl, rfl⟩) ?_ ?_
              rotate_left
              ·simp only [Act.put, List.setIfInBounds_toArray, List.set_cons_zero, List.set_cons_succ, i64_w, i32_w]
               rfl
              refine pure_ (i := 12) (N := some 49) (v := undef) (a' := ?_) #[true, true, true, true, true, true, true, true, true, true, true, true, true, false, false, false, false, false, false, false, false, false, false] rfl rfl (any_of HT_.out (by kernel_rfl)) (fun _ _ _ h => h) (Or.inr ⟨by rfl, rfl⟩) ?_ ?_
              rotate_left
              ·simp only [Act.put, List.setIfInBounds_toArray, List.set_cons_zero, List.set_cons_succ, i64_w, i32_w]
               rfl
              refine pure_ (i := 13) (N := some 50) (v := undef) (a' := ?_) #[true, true, true, true, true, true, true, true, true, true, true, true, true, true, false, false, false, false, false, false, false, false, false] rfl rfl (any_of HT_.out (by kernel_rfl)) (fun _ _ _ h => h) (Or.inr ⟨by rfl, rfl⟩) ?_ ?_
              rotate_left
              ·simp only [Act.put, List.setIfInBounds_toArray, List.set_cons_zero, List.set_cons_succ, i64_w, i32_w]
               rfl
              refine pure_ (i := 14) (N := some 51) (v := undef) (a' := ?_) #[true, true, true, true, true, true, true, true, true, true, true, true, true, true, true, false, false, false, false, false, false, false, false] rfl rfl (any_of HT_.out (by kernel_rfl)) (fun _ _ _ h => h) (Or.inr ⟨by rfl, rfl⟩) ?_ ?_
              rotate_left
              ·simp only [Act.put, List.setIfInBounds_toArray, List.set_cons_zero, List.set_cons_succ, i64_w, i32_w]
               rfl
              refine pure_ (i := 15) (N := some 52) (v := undef) (a' := ?_) #[true, true, true, true, true, true, true, true, true, true, true, true, true, true, true, true, false, false, false, false, false, false, false] rfl rfl (any_of HT_.out (by kernel_rfl)) (fun _ _ _ h => h) (Or.inr ⟨by rfl, rfl⟩) ?_ ?_
              rotate_left
              ·simp only [Act.put, List.setIfInBounds_toArray, List.set_cons_zero, List.set_cons_succ, i64_w, i32_w]
               rfl
              refine pure_ (i := 16) (N := some 53) (v := undef) (a' := ?_) #[true, true, true, true, true, true, true, true, true, true, true, true, true, true, true, true, true, false, false, false, false, false, false] rfl rfl (any_of HT_.out (by kernel_rfl)) (fun _ _ _ h => h) (Or.inr ⟨by rfl, rfl⟩) ?_ ?_
              rotate_left
              ·simp only [Act.put, List.setIfInBounds_toArray, List.set_cons_zero, List.set_cons_succ, i64_w, i32_w]
               rfl
              refine pure_ (i := 17) (N := some 54) (v := undef) (a' := ?_) #[true, true, true, true, true, true, true, true, true, true, true, true, true, true, true, true, true, true, false, false, false, false, false] rfl rfl (any_of HT_.out (by kernel_rfl)) (fun _ _ _ h => h) (Or.inr ⟨by rfl, rfl⟩) ?_ ?_
              rotate_left
              ·simp only [Act.put, List.setIfInBounds_toArray, List.set_cons_zero, List.set_cons_succ, i64_w, i32_w]
               rfl
              refine pure_ (i := 18) (N := some 55) (v := undef) (a' := ?_) #[true, true, true, true, true, true, true, true, true, true, true, true, true, true, true, true, true, true, true, false, false, false, false] rfl rfl (any_of HT_.out (by kernel_rfl)) (fun _ _ _ h => h) (Or.inr ⟨by rfl, rfl⟩) ?_ ?_
              rotate_left
              ·simp only [Act.put, List.setIfInBounds_toArray, List.set_cons_zero, List.set_cons_succ, i64_w, i32_w]
               rfl
              refine pure_ (i := 19) (N := some 56) (v := undef) (a' := ?_) #[true, true, true, true, true, true, true, true, true, true, true, true, true, true, true, true, true, true, true, true, false, false, false] rfl rfl (any_of HT_.out (by kernel_rfl)) (fun _ _ _ h => h) (Or.inr ⟨by rfl, rfl⟩) ?_ ?_
              rotate_left
              ·simp only [Act.put, List.setIfInBounds_toArray, List.set_cons_zero, List.set_cons_succ, i64_w, i32_w]
               rfl
              refine pure_ (i := 20) (N := some 57) (v := undef) (a' := ?_) #[true, true, true, true, true, true, true, true, true, true, true, true, true, true, true, true, true, true, true, true, true, false, false] rfl rfl (any_of HT_.out (by kernel_rfl)) (fun _ _ _ h => h) (Or.inr ⟨by rfl, rfl⟩) ?_ ?_
              rotate_left
              ·simp only [Act.put, List.setIfInBounds_toArray, List.set_cons_zero, List.set_cons_succ, i64_w, i32_w]
               rfl
              refine pure_ (i := 21) (N := some 58) (v := undef) (a' := ?_) #[true, true, true, true, true, true, true, true, true, true, true, true, true, true, true, true, true, true, true, true, true, true, false] rfl rfl (any_of HT_.out (by kernel_rfl)) (fun _ _ _ h => h) (Or.inr ⟨by rfl, rfl⟩) ?_ ?_
              rotate_left
              ·simp only [Act.put, List.setIfInBounds_toArray, List.set_cons_zero, List.set_cons_succ, i64_w, i32_w]
               rfl
              refine pr 22 59 HT_ ?_
              refine dn HT_ ?_
              try go_wp2
              go_ret
              exact ⟨by first | rfl | (simp [errW_none, errW_some] <;> rfl) | (simp [*, errW_none, errW_some] <;> rfl), by repeat (first | (with_reducible first | exact HB.out | apply below_alloc | apply pw_below_drewN | apply below_drew1) | exact HB.out)⟩
             ·rw [if_neg c11] at H
              have c11b0 : ((rd l1 x5_1) == (rd l1 x6_2)) = false := beq_eq_false_iff_ne.mpr c11
              have c11b1 : ((rd l1 x5_1) != (rd l1 x6_2)) = true := bne_iff_ne.mpr c11
              replace H := Option.bind_eq_some_iff.mp H
              obtain ⟨t116, A130, H⟩ := H
              replace H : (if (true != t116) = true then (some false) else (gampref04_Ring.l1 k2 l0 l1 x5_1 (wrap64 (x6_2 + 1)))) = some r := H
              have A13 := Aside0.mk A130
              clear A130
              by_cases c14 : (true != t116) = true
              ·rw [if_pos c14] at H
               have c14b0 : (true != t116) = true := c14
               (try (have c14b1 : decide (true = t116) = false := by simpa using c14))
               (try (have c14b2 : (true == t116) = false := by simpa using c14))
               (try (have c14b3 : ¬ (true = t116) := by simpa using c14))
               clear c14
               obtain rfl := Option.some.inj H
               try go_wp2
               have n0_ := Aside0.mk (below_drew1 HB.out)
               clear HB
               have HB := n0_
               clear n0_
               have p112 : 0 ≤ (x5_1 : Int) := ofd
               have q112 : x5_1 < (l1.length : Int) := ofd
               obtain ⟨ad112, e112, hx112_0⟩ := Kd.at_int HR1.out x5_1 p112 q112
               have hw112_0 := hx112_0
               cases e112
               replace hx112_0 := (HB.out.cell (World.block_lt_of_cell? w _ hx112_0)).trans hx112_0
               replace p112 := eq_true p112
               replace q112 := eq_true q112
               have p113 : 0 ≤ (x6_2 : Int) := ofd
               have q113 : x6_2 < (l1.length : Int) := ofd
               obtain ⟨ad113, e113, hx113_0⟩ := Kd.at_int HR1.out x6_2 p113 q113
               have hw113_0 := hx113_0
               obtain rfl : ad112 = ad113 := (by injection e113)
               replace hx113_0 := (HB.out.cell (World.block_lt_of_cell? w _ hx113_0)).trans hx113_0
               replace p113 := eq_true p113
               replace q113 := eq_true q113
               have p114 : 0 ≤ (x5_1 : Int) := ofd
               have q114 : x5_1 < (l1.length : Int) := ofd
               obtain ⟨ad114, e114, hx114_0⟩ := Kd.at_int HR1.out x5_1 p114 q114
               have hw114_0 := hx114_0
               obtain rfl : ad112 = ad114 := (by injection e114)
               replace hx114_0 := (HB.out.cell (World.block_lt_of_cell? w _ hx114_0)).trans hx114_0
               replace p114 := eq_true p114
               replace q114 := eq_true q114
               have p115 : 0 ≤ (x6_2 : Int) := ofd
               have q115 : x6_2 < (l1.length : Int) := ofd
               obtain ⟨ad115, e115, hx115_0⟩ := Kd.at_int HR1.out x6_2 p115 q115
               have hw115_0 := hx115_0
               obtain rfl : ad112 = ad115 := (by injection e115)
               replace hx115_0 := (HB.out.cell (World.block_lt_of_cell? w _ hx115_0)).trans hx115_0
               replace p115 := eq_true p115
               replace q115 := eq_true q115
               refine start_ (n := 23) (S := fun w' => w'.cell? (ad112.add (x5_1).toNat) = some (.int .i64 (rd l1 x5_1)) ∧ w'.cell? (ad112.add (x6_2).toNat) = some (.int .i64 (rd l1 x6_2)) ∧ w'.cell? (ad112.add (x5_1).toNat) = some (.int .i64 (rd l1 x5_1)) ∧ w'.cell? (ad112.add (x6_2).toNat) = some (.int .i64 (rd l1 x6_2))) (ds := []) #[false, false, false, false, false, false, false, false, false, false, false, false, false, false, false, false, false, false, false, false, false, false, false] (by kernel_rfl) rfl rfl ⟨((HB.out.cell (World.block_lt_of_cell? w _ hw112_0)).trans hw112_0), ((HB.out.cell (World.block_lt_of_cell? w _ hw113_0)).trans hw113_0), ((HB.out.cell (World.block_lt_of_cell? w _ hw114_0)).trans hw114_0), ((HB.out.cell (World.block_lt_of_cell? w _ hw115_0)).trans hw115_0)⟩ (fun hHeld => ?_); refine with_tabW gampref04_Ring.tab10 gampref04_Ring.bits10 (fun HT_ HW_ => ?_)
               generalize wr.drew = w15 at HB hx112_0 hx113_0 hx114_0 hx115_0 hHeld ⊢
               refine pr 0 37 HT_ ?_
               refine pr 1 38 HT_ ?_
               refine pr 2 39 HT_ ?_
               refine pr 4 41 HT_ ?_
               refine pr 5 42 HT_ ?_
               refine pr 6 43 HT_ ?_
               refine tr 3 40 HT_ HW_ hHeld ?_
               refine tr 7 44 HT_ HW_ hHeld ?_
               refine pr 8 45 HT_ ?_
               refine pr 9 46 HT_ ?_
               refine pr 10 47 HT_ ?_
               refine pr 11 48 HT_ ?_
               refine pr 12 49 HT_ ?_
               refine pr 13 50 HT_ ?_
               refine pr 14 51 HT_ ?_
               refine pr 16 53 HT_ ?_
               refine pr 17 54 HT_ ?_
               refine pr 18 55 HT_ ?_
               refine tr 15 52 HT_ HW_ hHeld ?_
               refine tr 19 56 HT_ HW_ hHeld ?_
               refine on 20 (some 57) HT_ (fun K hK => ?_)
               refine gS Try.func61 #[.slice A0 l0.length c0, .int .i64 (rd l1 x5_1), .int .i64 (rd l1 x6_2)] ?_
               with_reducible refine (Rx.gampref04_Near.calls k2 _ _ l0 (rd l1 x5_1) (rd l1 x6_2) t116 _ ?side1 ?side2 A13.out).mono ?_
               (case side1 => exact cl (Kd.C_below HR0.out HB.out))
               (case side2 => exact HC0.out)
               rintro e w16 ⟨rfl, hb⟩
               refine ⟨_, rfl, ?_⟩
               have n0_ := Aside0.mk (below_step (bl HB) hb)
               clear HB
               have HB := n0_
               clear n0_
               (try clear hb)
               (try clear hb2)
               (try clear hk)
               (try clear hi)
               refine hK.out _ _ ⟨((HB.out.cell (World.block_lt_of_cell? w _ hw112_0)).trans hw112_0), ((HB.out.cell (World.block_lt_of_cell? w _ hw113_0)).trans hw113_0), ((HB.out.cell (World.block_lt_of_cell? w _ hw114_0)).trans hw114_0), ((HB.out.cell (World.block_lt_of_cell? w _ hw115_0)).trans hw115_0)⟩ (fun hHeld => ?_)
               clear hK K
               refine nr (some 57) ?_
               refine pr 21 58 HT_ ?_
               refine pr 22 59 HT_ ?_
               refine dn HT_ ?_
               try go_wp2
               go_ret
               exact ⟨by first | rfl | (simp [errW_none, errW_some] <;> rfl) | (simp [*, errW_none, errW_some] <;> rfl), by repeat (first | (with_reducible first | exact HB.out | apply below_alloc | apply pw_below_drewN | apply below_drew1) | exact HB.out)⟩
              ·rw [if_neg c14] at H
               have c14b0 : (true != t116) = false := by simpa using c14
               (try (have c14b1 : decide (true = t116) = true := by simpa using c14))
               (try (have c14b2 : (true == t116) = true := by simpa using c14))
               clear c14
               have H' := Aside0.mk H
               clear H
               try go_wp2
               have n0_ := Aside0.mk (below_drew1 HB.out)
               clear HB
               have HB := n0_
               clear n0_
               have p112 : 0 ≤ (x5_1 : Int) := ofd
               have q112 : x5_1 < (l1.length : Int) := ofd
               obtain ⟨ad112, e112, hx112_0⟩ := Kd.at_int HR1.out x5_1 p112 q112
               have hw112_0 := hx112_0
               cases e112
               replace hx112_0 := (HB.out.cell (World.block_lt_of_cell? w _ hx112_0)).trans hx112_0
               replace p112 := eq_true p112
               replace q112 := eq_true q112
               have p113 : 0 ≤ (x6_2 : Int) := ofd
               have q113 : x6_2 < (l1.length : Int) := ofd
               obtain ⟨ad113, e113, hx113_0⟩ := Kd.at_int HR1.out x6_2 p113 q113
               have hw113_0 := hx113_0
               obtain rfl : ad112 = ad113 := (by injection e113)
               replace hx113_0 := (HB.out.cell (World.block_lt_of_cell? w _ hx113_0)).trans hx113_0
               replace p113 := eq_true p113
               replace q113 := eq_true q113
               have p114 : 0 ≤ (x5_1 : Int) := ofd
               have q114 : x5_1 < (l1.length : Int) := ofd
               obtain ⟨ad114, e114, hx114_0⟩ := Kd.at_int HR1.out x5_1 p114 q114
               have hw114_0 := hx114_0
               obtain rfl : ad112 = ad114 := (by injection e114)
               replace hx114_0 := (HB.out.cell (World.block_lt_of_cell? w _ hx114_0)).trans hx114_0
               replace p114 := eq_true p114
               replace q114 := eq_true q114
               have p115 : 0 ≤ (x6_2 : Int) := ofd
               have q115 : x6_2 < (l1.length : Int) := ofd
               obtain ⟨ad115, e115, hx115_0⟩ := Kd.at_int HR1.out x6_2 p115 q115
               have hw115_0 := hx115_0
               obtain rfl : ad112 = ad115 := (by injection e115)
               replace hx115_0 := (HB.out.cell (World.block_lt_of_cell? w _ hx115_0)).trans hx115_0
               replace p115 := eq_true p115
               replace q115 := eq_true q115
               refine start_ (n := 23) (S := fun w' => w'.cell? (ad112.add (x5_1).toNat) = some (.int .i64 (rd l1 x5_1)) ∧ w'.cell? (ad112.add (x6_2).toNat) = some (.int .i64 (rd l1 x6_2)) ∧ w'.cell? (ad112.add (x5_1).toNat) = some (.int .i64 (rd l1 x5_1)) ∧ w'.cell? (ad112.add (x6_2).toNat) = some (.int .i64 (rd l1 x6_2))) (ds := []) #[false, false, false, false, false, false, false, false, false, false, false, false, false, false, false, false, false, false, false, false, false, false, false] (by kernel_rfl) rfl rfl ⟨((HB.out.cell (World.block_lt_of_cell? w _ hw112_0)).trans hw112_0), ((HB.out.cell (World.block_lt_of_cell? w _ hw113_0)).trans hw113_0), ((HB.out.cell (World.block_lt_of_cell? w _ hw114_0)).trans hw114_0), ((HB.out.cell (World.block_lt_of_cell? w _ hw115_0)).trans hw115_0)⟩ (fun hHeld => ?_); refine with_tabW gampref04_Ring.tab10 gampref04_Ring.bits10 (fun HT_ HW_ => ?_)
               generalize wr.drew = w17 at HB hx112_0 hx113_0 hx114_0 hx115_0 hHeld ⊢
               refine pr 0 37 HT_ ?_
               refine pr 1 38 HT_ ?_
               refine pr 2 39 HT_ ?_
               refine pr 4 41 HT_ ?_
               refine pr 5 42 HT_ ?_
               refine pr 6 43 HT_ ?_
               refine tr 3 40 HT_ HW_ hHeld ?_
               refine tr 7 44 HT_ HW_ hHeld ?_
               refine pr 8 45 HT_ ?_
               refine pr 9 46 HT_ ?_
               refine pr 10 47 HT_ ?_
               refine pr 11 48 HT_ ?_
               refine pr 12 49 HT_ ?_
               refine pr 13 50 HT_ ?_
               refine pr 14 51 HT_ ?_
               refine pr 16 53 HT_ ?_
               refine pr 17 54 HT_ ?_
               refine pr 18 55 HT_ ?_
               refine tr 15 52 HT_ HW_ hHeld ?_
               refine tr 19 56 HT_ HW_ hHeld ?_
               refine on 20 (some 57) HT_ (fun K hK => ?_)
               refine gS Try.func61 #[.slice A0 l0.length c0, .int .i64 (rd l1 x5_1), .int .i64 (rd l1 x6_2)] ?_
               with_reducible refine (Rx.gampref04_Near.calls k2 _ _ l0 (rd l1 x5_1) (rd l1 x6_2) t116 _ ?side1 ?side2 A13.out).mono ?_
               (case side1 => exact cl (Kd.C_below HR0.out HB.out))
               (case side2 => exact HC0.out)
               rintro e w18 ⟨rfl, hb⟩
               refine ⟨_, rfl, ?_⟩
               have n0_ := Aside0.mk (below_step (bl HB) hb)
               clear HB
               have HB := n0_
               clear n0_
               (try clear hb)
               (try clear hb2)
               (try clear hk)
               (try clear hi)
               refine hK.out _ _ ⟨((HB.out.cell (World.block_lt_of_cell? w _ hw112_0)).trans hw112_0), ((HB.out.cell (World.block_lt_of_cell? w _ hw113_0)).trans hw113_0), ((HB.out.cell (World.block_lt_of_cell? w _ hw114_0)).trans hw114_0), ((HB.out.cell (World.block_lt_of_cell? w _ hw115_0)).trans hw115_0)⟩ (fun hHeld => ?_)
               clear hK K
               refine nr (some 57) ?_
               refine pr 21 58 HT_ ?_
               refine pr 22 59 HT_ ?_
               refine dn HT_ ?_
               try go_wp2
               go_roundg k2
               case measure => have := HK1.out; have := HK2.out; omega
               case rel => exact ⟨(wrap64 (x6_2 + 1)), (by first | rfl | (simp; done) | (simp [*]; done)), H', ⟨by have := HK1.out; have := HK2.out; omega⟩, ⟨bl HB⟩⟩
            ·rw [if_neg c10] at H
             exact absurd H (by simp)
           ·rw [if_neg c9] at H
            exact absurd H (by simp)
          ·rw [if_neg c8] at H
           exact absurd H (by simp)
         ·rw [if_neg c7] at H
          exact absurd H (by simp)
        ·rw [if_neg c6] at H
         have c6b0 : ((wrap64 (x5_1 - x6_2)) == 1) = false := beq_eq_false_iff_ne.mpr c6
         have c6b1 : ((wrap64 (x5_1 - x6_2)) != 1) = true := bne_iff_ne.mpr c6
         by_cases c19 : x6_2 = 0
         ·rw [if_pos c19] at H
          have c19b0 : (x6_2 == 0) = true := beq_iff_eq.mpr c19
          have c19b1 : (x6_2 != 0) = false := bne_eq_false_iff_eq.mpr c19
          clear c19
          by_cases c20 : 0 ≤ x5_1
          ·rw [if_pos c20] at H
           have c20b0 : decide (0 ≤ x5_1) = true := decide_eq_true c20
           clear c20
           by_cases c21 : x5_1 < (l1.length : Int)
           ·rw [if_pos c21] at H
            have c21b0 : decide (x5_1 < (l1.length : Int)) = true := decide_eq_true c21
            clear c21
            by_cases c22 : 0 ≤ x6_2
            ·rw [if_pos c22] at H
             have c22b0 : decide (0 ≤ x6_2) = true := decide_eq_true c22
             clear c22
             by_cases c23 : x6_2 < (l1.length : Int)
             ·rw [if_pos c23] at H
              have c23b0 : decide (x6_2 < (l1.length : Int)) = true := decide_eq_true c23
              clear c23
              by_cases c24 : (rd l1 x5_1) = (rd l1 x6_2)
              ·rw [if_pos c24] at H
               have c24b0 : ((rd l1 x5_1) == (rd l1 x6_2)) = true := beq_iff_eq.mpr c24
               have c24b1 : ((rd l1 x5_1) != (rd l1 x6_2)) = false := bne_eq_false_iff_eq.mpr c24
               clear c24
               obtain rfl := Option.some.inj H
               try go_wp2
               have n0_ := Aside0.mk (below_drew1 HB.out)
               clear HB
               have HB := n0_
               clear n0_
               have p117 : 0 ≤ (x5_1 : Int) := ofd
               have q117 : x5_1 < (l1.length : Int) := ofd
               obtain ⟨ad117, e117, hx117_0⟩ := Kd.at_int HR1.out x5_1 p117 q117
               have hw117_0 := hx117_0
               cases e117
               replace hx117_0 := (HB.out.cell (World.block_lt_of_cell? w _ hx117_0)).trans hx117_0
               replace p117 := eq_true p117
               replace q117 := eq_true q117
               have p118 : 0 ≤ (x6_2 : Int) := ofd
               have q118 : x6_2 < (l1.length : Int) := ofd
               obtain ⟨ad118, e118, hx118_0⟩ := Kd.at_int HR1.out x6_2 p118 q118
               have hw118_0 := hx118_0
               obtain rfl : ad117 = ad118 := (by injection e118)
               replace hx118_0 := (HB.out.cell (World.block_lt_of_cell? w _ hx118_0)).trans hx118_0
               replace p118 := eq_true p118
               replace q118 := eq_true q118
               refine start_ (n := 23) (S := fun w' => w'.cell? (ad117.add (x5_1).toNat) = some (.int .i64 (rd l1 x5_1)) ∧ w'.cell? (ad117.add (x6_2).toNat) = some (.int .i64 (rd l1 x6_2))) (ds := []) #[false, false, false, false, false, false, false, false, false, false, false, false, false, false, false, false, false, false, false, false, false, false, false] (by kernel_rfl) rfl rfl ⟨((HB.out.cell (World.block_lt_of_cell? w _ hw117_0)).trans hw117_0), ((HB.out.cell (World.block_lt_of_cell? w _ hw118_0)).trans hw118_0)⟩ (fun hHeld => ?_); refine with_tabW gampref04_Ring.tab10 gampref04_Ring.bits10 (fun HT_ HW_ => ?_)
               generalize wr.drew = w25 at HB hx117_0 hx118_0 hHeld ⊢
               refine pr 0 37 HT_ ?_
               refine pr 1 38 HT_ ?_
               refine pr 2 39 HT_ ?_
               refine pr 4 41 HT_ ?_
               refine pr 5 42 HT_ ?_
               refine pr 6 43 HT_ ?_
               refine tr 3 40 HT_ HW_ hHeld ?_
               refine tr 7 44 HT_ HW_ hHeld ?_
               refine pr 8 45 HT_ ?_
               refine pr 9 46 HT_ ?_
               refine pure_ (i := 10) (N := some 47) (v := undef) (a' := ?_) #[true, true, true, true, true, true, true, true, true, true, true, false, false, false, false, false, false, false, false, false, false, false, false] rfl rfl (any_of HT_.out (by kernel_rfl)) (fun _ _ _ h => h) (Or.inr ⟨by rfl, rfl⟩) ?_ ?_
               rotate_left
               ·simp only [Act.put, List.setIfInBounds_toArray, List.set_cons_zero, List.set_cons_succ, i64_w, i32_w]
                rfl
               refine pure_ (i := 11) (N := some 48) (v := undef) (a' := ?_) #[true, true, true, true, true, true, true, true, true, true, true, true, false, false, false, false, false, false, false, false, false, false, false] rfl rfl (any_of HT_.out (by kernel_rfl)) (fun _ _ _ h => h) (Or.inr ⟨by rfl, rfl⟩) ?_ ?_
               rotate_left
               ·simp only [Act.put, List.setIfInBounds_toArray, List.set_cons_zero, List.set_cons_succ, i64_w, i32_w]
                rfl
               refine pure_ (i := 12) (N := some 49) (v := undef) (a' := ?_) #[true, true, true, true, true, true, true, true, true, true, true, true, true, false, false, false, false, false, false, false, false, false, false] rfl rfl (any_of HT_.out (by kernel_rfl)) (fun _ _ _ h => h) (Or.inr ⟨by rfl, rfl⟩) ?_ ?_
               rotate_left
               ·simp only [Act.put, List.setIfInBounds_toArray, List.set_cons_zero, List.set_cons_succ, i64_w, i32_w]
                rfl
               refine pure_ (i := 13) (N := some 50) (v := undef) (a' := ?_) #[true, true, true, true, true, true, true, true, true, true, true, true, true, true, false, false, false, false, false, false, false, false, false] rfl rfl (any_of HT_.out (by kernel_rfl)) (fun _ _ _ h => h) (Or.inr ⟨by rfl, rfl⟩) ?_ ?_
               rotate_left
               ·simp only [Act.put, List.setIfInBounds_toArray, List.set_cons_zero, List.set_cons_succ, i64_w, i32_w]
                rfl
               refine pure_ (i := 14) (N := some 51) (v := undef) (a' := ?_) #[true, true, true, true, true, true, true, true, true, true, true, true, true, true, true, false, false, false, false, false, false, false, false] rfl rfl (any_of HT_.out (by kernel_rfl)) (fun _ _ _ h => h) (Or.inr ⟨by rfl, rfl⟩) ?_ ?_
               rotate_left
               ·simp only [Act.put, List.setIfInBounds_toArray, List.set_cons_zero, List.set_cons_succ, i64_w, i32_w]
                rfl
               refine pure_ (i := 15) (N := some 52) (v := undef) (a' := ?_) #[true, true, true, true, true, true, true, true, true, true, true, true, true, true, true, true, false, false, false, false, false, false, false] rfl rfl (any_of HT_.out (by kernel_rfl)) (fun _ _ _ h => h) (Or.inr ⟨by rfl, rfl⟩) ?_ ?_
               rotate_left
               ·simp only [Act.put, List.setIfInBounds_toArray, List.set_cons_zero, List.set_cons_succ, i64_w, i32_w]
                rfl
               refine pure_ (i := 16) (N := some 53) (v := undef) (a' := ?_) #[true, true, true, true, true, true, true, true, true, true, true, true, true, true, true, true, true, false, false, false, false, false, false] rfl rfl (any_of HT_.out (by kernel_rfl)) (fun _ _ _ h => h) (Or.inr ⟨by rfl, rfl⟩) ?_ ?_
               rotate_left
               ·simp only [Act.put, List.setIfInBounds_toArray, List.set_cons_zero, List.set_cons_succ, i64_w, i32_w]
                rfl
               refine pure_ (i := 17) (N := some 54) (v := undef) (a' := ?_) #[true, true, true, true, true, true, true, true, true, true, true, true, true, true, true, true, true, true, false, false, false, false, false] rfl rfl (any_of HT_.out (by kernel_rfl)) (fun _ _ _ h => h) (Or.inr ⟨by rfl, rfl⟩) ?_ ?_
               rotate_left
               ·simp only [Act.put, List.setIfInBounds_toArray, List.set_cons_zero, List.set_cons_succ, i64_w, i32_w]
                rfl
               refine pure_ (i := 18) (N := some 55) (v := undef) (a' := ?_) #[true, true, true, true, true, true, true, true, true, true, true, true, true, true, true, true, true, true, true, false, false, false, false] rfl rfl (any_of HT_.out (by kernel_rfl)) (fun _ _ _ h => h) (Or.inr ⟨by rfl, rfl⟩) ?_ ?_
               rotate_left
               ·simp only [Act.put, List.setIfInBounds_toArray, List.set_cons_zero, List.set_cons_succ, i64_w, i32_w]
                rfl
               refine pure_ (i := 19) (N := some 56) (v := undef) (a' := ?_) #[true, true, true, true, true, true, true, true, true, true, true, true, true, true, true, true, true, true, true, true, false, false, false] rfl rfl (any_of HT_.out (by kernel_rfl)) (fun _ _ _ h => h) (Or.inr ⟨by rfl, rfl⟩) ?_ ?_
               rotate_left
               ·simp only [Act.put, List.setIfInBounds_toArray, List.set_cons_zero, List.set_cons_succ, i64_w, i32_w]
                rfl
               refine pure_ (i := 20) (N := some 57) (v := undef) (a' := ?_) #[true, true, true, true, true, true, true, true, true, true, true, true, true, true, true, true, true, true, true, true, true, false, false] rfl rfl (any_of HT_.out (by kernel_rfl)) (fun _ _ _ h => h) (Or.inr ⟨by rfl, rfl⟩) ?_ ?_
               rotate_left
               ·simp only [Act.put, List.setIfInBounds_toArray, List.set_cons_zero, List.set_cons_succ, i64_w, i32_w]
                rfl
               refine pure_ (i := 21) (N := some 58) (v := undef) (a' := ?_) #[true, true, true, true, true, true, true, true, true, true, true, true, true, true, true, true, true, true, true, true, true, true, false] rfl rfl (any_of HT_.out (by kernel_rfl)) (fun _ _ _ h => h) (Or.inr ⟨by rfl, rfl⟩) ?_ ?_
               rotate_left
               ·simp only [Act.put, List.setIfInBounds_toArray, List.set_cons_zero, List.set_cons_succ, i64_w, i32_w]
                rfl
               refine pr 22 59 HT_ ?_
               refine dn HT_ ?_
               try go_wp2
               go_ret
               exact ⟨by first | rfl | (simp [errW_none, errW_some] <;> rfl) | (simp [*, errW_none, errW_some] <;> rfl), by repeat (first | (with_reducible first | exact HB.out | apply below_alloc | apply pw_below_drewN | apply below_drew1) | exact HB.out)⟩
              ·rw [if_neg c24] at H
               have c24b0 : ((rd l1 x5_1) == (rd l1 x6_2)) = false := beq_eq_false_iff_ne.mpr c24
               have c24b1 : ((rd l1 x5_1) != (rd l1 x6_2)) = true := bne_iff_ne.mpr c24
               replace H := Option.bind_eq_some_iff.mp H
               obtain ⟨t121, A260, H⟩ := H
               replace H : (if ((x5_1 == (wrap64 ((l1.length : Int) - 1))) != t121) = true then (some false) else (gampref04_Ring.l1 k2 l0 l1 x5_1 (wrap64 (x6_2 + 1)))) = some r := H
               have A26 := Aside0.mk A260
               clear A260
               by_cases c27 : ((x5_1 == (wrap64 ((l1.length : Int) - 1))) != t121) = true
               ·rw [if_pos c27] at H
                have c27b0 : ((x5_1 == (wrap64 ((l1.length : Int) - 1))) != t121) = true := c27
                (try (have c27b1 : decide ((x5_1 == (wrap64 ((l1.length : Int) - 1))) = t121) = false := by simpa using c27))
                (try (have c27b2 : ((x5_1 == (wrap64 ((l1.length : Int) - 1))) == t121) = false := by simpa using c27))
                (try (have c27b3 : ¬ ((x5_1 == (wrap64 ((l1.length : Int) - 1))) = t121) := by simpa using c27))
                clear c27
                obtain rfl := Option.some.inj H
                try go_wp2
                have n0_ := Aside0.mk (below_drew1 HB.out)
                clear HB
                have HB := n0_
                clear n0_
                have p117 : 0 ≤ (x5_1 : Int) := ofd
                have q117 : x5_1 < (l1.length : Int) := ofd
                obtain ⟨ad117, e117, hx117_0⟩ := Kd.at_int HR1.out x5_1 p117 q117
                have hw117_0 := hx117_0
                cases e117
                replace hx117_0 := (HB.out.cell (World.block_lt_of_cell? w _ hx117_0)).trans hx117_0
                replace p117 := eq_true p117
                replace q117 := eq_true q117
                have p118 : 0 ≤ (x6_2 : Int) := ofd
                have q118 : x6_2 < (l1.length : Int) := ofd
                obtain ⟨ad118, e118, hx118_0⟩ := Kd.at_int HR1.out x6_2 p118 q118
                have hw118_0 := hx118_0
                obtain rfl : ad117 = ad118 := (by injection e118)
                replace hx118_0 := (HB.out.cell (World.block_lt_of_cell? w _ hx118_0)).trans hx118_0
                replace p118 := eq_true p118
                replace q118 := eq_true q118
                have p119 : 0 ≤ (x5_1 : Int) := ofd
                have q119 : x5_1 < (l1.length : Int) := ofd
                obtain ⟨ad119, e119, hx119_0⟩ := Kd.at_int HR1.out x5_1 p119 q119
                have hw119_0 := hx119_0
                obtain rfl : ad117 = ad119 := (by injection e119)
                replace hx119_0 := (HB.out.cell (World.block_lt_of_cell? w _ hx119_0)).trans hx119_0
                replace p119 := eq_true p119
                replace q119 := eq_true q119
                have p120 : 0 ≤ (x6_2 : Int) := ofd
                have q120 : x6_2 < (l1.length : Int) := ofd
                obtain ⟨ad120, e120, hx120_0⟩ := Kd.at_int HR1.out x6_2 p120 q120
                have hw120_0 := hx120_0
                obtain rfl : ad117 = ad120 := (by injection e120)
                replace hx120_0 := (HB.out.cell (World.block_lt_of_cell? w _ hx120_0)).trans hx120_0
                replace p120 := eq_true p120
                replace q120 := eq_true q120
                refine start_ (n := 23) (S := fun w' => w'.cell? (ad117.add (x5_1).toNat) = some (.int .i64 (rd l1 x5_1)) ∧ w'.cell? (ad117.add (x6_2).toNat) = some (.int .i64 (rd l1 x6_2)) ∧ w'.cell? (ad117.add (x5_1).toNat) = some (.int .i64 (rd l1 x5_1)) ∧ w'.cell? (ad117.add (x6_2).toNat) = some (.int .i64 (rd l1 x6_2))) (ds := []) #[false, false, false, false, false, false, false, false, false, false, false, false, false, false, false, false, false, false, false, false, false, false, false] (by kernel_rfl) rfl rfl ⟨((HB.out.cell (World.block_lt_of_cell? w _ hw117_0)).trans hw117_0), ((HB.out.cell (World.block_lt_of_cell? w _ hw118_0)).trans hw118_0), ((HB.out.cell (World.block_lt_of_cell? w _ hw119_0)).trans hw119_0), ((HB.out.cell (World.block_lt_of_cell? w _ hw120_0)).trans hw120_0)⟩ (fun hHeld => ?_); refine with_tabW gampref04_Ring.tab10 gampref04_Ring.bits10 (fun HT_ HW_ => ?_)
                generalize wr.drew = w28 at HB hx117_0 hx118_0 hx119_0 hx120_0 hHeld ⊢
                refine pr 0 37 HT_ ?_
                refine pr 1 38 HT_ ?_
                refine pr 2 39 HT_ ?_
                refine pr 4 41 HT_ ?_
                refine pr 5 42 HT_ ?_
                refine pr 6 43 HT_ ?_
                refine tr 3 40 HT_ HW_ hHeld ?_
                refine tr 7 44 HT_ HW_ hHeld ?_
                refine pr 8 45 HT_ ?_
                refine pr 9 46 HT_ ?_
                refine pr 10 47 HT_ ?_
                refine pr 11 48 HT_ ?_
                refine pr 12 49 HT_ ?_
                refine pr 13 50 HT_ ?_
                refine pr 14 51 HT_ ?_
                refine pr 16 53 HT_ ?_
                refine pr 17 54 HT_ ?_
                refine pr 18 55 HT_ ?_
                refine tr 15 52 HT_ HW_ hHeld ?_
                refine tr 19 56 HT_ HW_ hHeld ?_
                refine on 20 (some 57) HT_ (fun K hK => ?_)
                refine gS Try.func61 #[.slice A0 l0.length c0, .int .i64 (rd l1 x5_1), .int .i64 (rd l1 x6_2)] ?_
                with_reducible refine (Rx.gampref04_Near.calls k2 _ _ l0 (rd l1 x5_1) (rd l1 x6_2) t121 _ ?side1 ?side2 A26.out).mono ?_
                (case side1 => exact cl (Kd.C_below HR0.out HB.out))
                (case side2 => exact HC0.out)
                rintro e w29 ⟨rfl, hb⟩
                refine ⟨_, rfl, ?_⟩
                have n0_ := Aside0.mk (below_step (bl HB) hb)
                clear HB
                have HB := n0_
                clear n0_
                (try clear hb)
                (try clear hb2)
                (try clear hk)
                (try clear hi)
                refine hK.out _ _ ⟨((HB.out.cell (World.block_lt_of_cell? w _ hw117_0)).trans hw117_0), ((HB.out.cell (World.block_lt_of_cell? w _ hw118_0)).trans hw118_0), ((HB.out.cell (World.block_lt_of_cell? w _ hw119_0)).trans hw119_0), ((HB.out.cell (World.block_lt_of_cell? w _ hw120_0)).trans hw120_0)⟩ (fun hHeld => ?_)
                clear hK K
                refine nr (some 57) ?_
                refine pr 21 58 HT_ ?_
                refine pr 22 59 HT_ ?_
                refine dn HT_ ?_
                try go_wp2
                go_ret
                exact ⟨by first | rfl | (simp [errW_none, errW_some] <;> rfl) | (simp [*, errW_none, errW_some] <;> rfl), by repeat (first | (with_reducible first | exact HB.out | apply below_alloc | apply pw_below_drewN | apply below_drew1) | exact HB.out)⟩
               ·rw [if_neg c27] at H
                have c27b0 : ((x5_1 == (wrap64 ((l1.length : Int) - 1))) != t121) = false := by simpa using c27
                (try (have c27b1 : decide ((x5_1 == (wrap64 ((l1.length : Int) - 1))) = t121) = true := by simpa using c27))
                (try (have c27b2 : ((x5_1 == (wrap64 ((l1.length : Int) - 1))) == t121) = true := by simpa using c27))
                clear c27
                have H' := Aside0.mk H
                clear H
                try go_wp2
                have n0_ := Aside0.mk (below_drew1 HB.out)
                clear HB
                have HB := n0_
                clear n0_
                have p117 : 0 ≤ (x5_1 : Int) := ofd
                have q117 : x5_1 < (l1.length : Int) := ofd
                obtain ⟨ad117, e117, hx117_0⟩ := Kd.at_int HR1.out x5_1 p117 q117
                have hw117_0 := hx117_0
                cases e117
                replace hx117_0 := (HB.out.cell (World.block_lt_of_cell? w _ hx117_0)).trans hx117_0
                replace p117 := eq_true p117
                replace q117 := eq_true q117
                have p118 : 0 ≤ (x6_2 : Int) := ofd
                have q118 : x6_2 < (l1.length : Int) := ofd
                obtain ⟨ad118, e118, hx118_0⟩ := Kd.at_int HR1.out x6_2 p118 q118
                have hw118_0 := hx118_0
                obtain rfl : ad117 = ad118 := (by injection e118)
                replace hx118_0 := (HB.out.cell (World.block_lt_of_cell? w _ hx118_0)).trans hx118_0
                replace p118 := eq_true p118
                replace q118 := eq_true q118
                have p119 : 0 ≤ (x5_1 : Int) := ofd
                have q119 : x5_1 < (l1.length : Int) := ofd
                obtain ⟨ad119, e119, hx119_0⟩ := Kd.at_int HR1.out x5_1 p119 q119
                have hw119_0 := hx119_0
                obtain rfl : ad117 = ad119 := (by injection e119)
                replace hx119_0 := (HB.out.cell (World.block_lt_of_cell? w _ hx119_0)).trans hx119_0
                replace p119 := eq_true p119
                replace q119 := eq_true q119
                have p120 : 0 ≤ (x6_2 : Int) := ofd
                have q120 : x6_2 < (l1.length : Int) := ofd
                obtain ⟨ad120, e120, hx120_0⟩ := Kd.at_int HR1.out x6_2 p120 q120
                have hw120_0 := hx120_0
                obtain rfl : ad117 = ad120 := (by injection e120)
                replace hx120_0 := (HB.out.cell (World.block_lt_of_cell? w _ hx120_0)).trans hx120_0
                replace p120 := eq_true p120
                replace q120 := eq_true q120
                refine start_ (n := 23) (S := fun w' => w'.cell? (ad117.add (x5_1).toNat) = some (.int .i64 (rd l1 x5_1)) ∧ w'.cell? (ad117.add (x6_2).toNat) = some (.int .i64 (rd l1 x6_2)) ∧ w'.cell? (ad117.add (x5_1).toNat) = some (.int .i64 (rd l1 x5_1)) ∧ w'.cell? (ad117.add (x6_2).toNat) = some (.int .i64 (rd l1 x6_2))) (ds := []) #[false, false, false, false, false, false, false, false, false, false, false, false, false, false, false, false, false, false, false, false, false, false, false] (by kernel_rfl) rfl rfl ⟨((HB.out.cell (World.block_lt_of_cell? w _ hw117_0)).trans hw117_0), ((HB.out.cell (World.block_lt_of_cell? w _ hw118_0)).trans hw118_0), ((HB.out.cell (World.block_lt_of_cell? w _ hw119_0)).trans hw119_0), ((HB.out.cell (World.block_lt_of_cell? w _ hw120_0)).trans hw120_0)⟩ (fun hHeld => ?_); refine with_tabW gampref04_Ring.tab10 gampref04_Ring.bits10 (fun HT_ HW_ => ?_)
                generalize wr.drew = w30 at HB hx117_0 hx118_0 hx119_0 hx120_0 hHeld ⊢
                refine pr 0 37 HT_ ?_
                refine pr 1 38 HT_ ?_
                refine pr 2 39 HT_ ?_
                refine pr 4 41 HT_ ?_
                refine pr 5 42 HT_ ?_
                refine pr 6 43 HT_ ?_
                refine tr 3 40 HT_ HW_ hHeld ?_
                refine tr 7 44 HT_ HW_ hHeld ?_
                refine pr 8 45 HT_ ?_
                refine pr 9 46 HT_ ?_
                refine pr 10 47 HT_ ?_
                refine pr 11 48 HT_ ?_
                refine pr 12 49 HT_ ?_
                refine pr 13 50 HT_ ?_
                refine pr 14 51 HT_ ?_
                refine pr 16 53 HT_ ?_
                refine pr 17 54 HT_ ?_
                refine pr 18 55 HT_ ?_
                refine tr 15 52 HT_ HW_ hHeld ?_
                refine tr 19 56 HT_ HW_ hHeld ?_
                refine on 20 (some 57) HT_ (fun K hK => ?_)
                refine gS Try.func61 #[.slice A0 l0.length c0, .int .i64 (rd l1 x5_1), .int .i64 (rd l1 x6_2)] ?_
                with_reducible refine (Rx.gampref04_Near.calls k2 _ _ l0 (rd l1 x5_1) (rd l1 x6_2) t121 _ ?side1 ?side2 A26.out).mono ?_
                (case side1 => exact cl (Kd.C_below HR0.out HB.out))
                (case side2 => exact HC0.out)
                rintro e w31 ⟨rfl, hb⟩
                refine ⟨_, rfl, ?_⟩
                have n0_ := Aside0.mk (below_step (bl HB) hb)
                clear HB
                have HB := n0_
                clear n0_
                (try clear hb)
                (try clear hb2)
                (try clear hk)
                (try clear hi)
                refine hK.out _ _ ⟨((HB.out.cell (World.block_lt_of_cell? w _ hw117_0)).trans hw117_0), ((HB.out.cell (World.block_lt_of_cell? w _ hw118_0)).trans hw118_0), ((HB.out.cell (World.block_lt_of_cell? w _ hw119_0)).trans hw119_0), ((HB.out.cell (World.block_lt_of_cell? w _ hw120_0)).trans hw120_0)⟩ (fun hHeld => ?_)
                clear hK K
                refine nr (some 57) ?_
                refine pr 21 58 HT_ ?_
                refine pr 22 59 HT_ ?_
                refine dn HT_ ?_
                try go_wp2
                go_roundg k2
                case measure => have := HK1.out; have := HK2.out; omega
                case rel => exact ⟨(wrap64 (x6_2 + 1)), (by first | rfl | (simp; done) | (simp [*]; done)), H', ⟨by have := HK1.out; have := HK2.out; omega⟩, ⟨bl HB⟩⟩
             ·rw [if_neg c23] at H
              exact absurd H (by simp)
            ·rw [if_neg c22] at H
             exact absurd H (by simp)
           ·rw [if_neg c21] at H
            exact absurd H (by simp)
          ·rw [if_neg c20] at H
           exact absurd H (by simp)
         ·rw [if_neg c19] at H
          have c19b0 : (x6_2 == 0) = false := beq_eq_false_iff_ne.mpr c19
          have c19b1 : (x6_2 != 0) = true := bne_iff_ne.mpr c19
          by_cases c32 : 0 ≤ x5_1
          ·rw [if_pos c32] at H
           have c32b0 : decide (0 ≤ x5_1) = true := decide_eq_true c32
           clear c32
           by_cases c33 : x5_1 < (l1.length : Int)
           ·rw [if_pos c33] at H
            have c33b0 : decide (x5_1 < (l1.length : Int)) = true := decide_eq_true c33
            clear c33
            by_cases c34 : 0 ≤ x6_2
            ·rw [if_pos c34] at H
             have c34b0 : decide (0 ≤ x6_2) = true := decide_eq_true c34
             clear c34
             by_cases c35 : x6_2 < (l1.length : Int)
             ·rw [if_pos c35] at H
              have c35b0 : decide (x6_2 < (l1.length : Int)) = true := decide_eq_true c35
              clear c35
              by_cases c36 : (rd l1 x5_1) = (rd l1 x6_2)
              ·rw [if_pos c36] at H
               have c36b0 : ((rd l1 x5_1) == (rd l1 x6_2)) = true := beq_iff_eq.mpr c36
               have c36b1 : ((rd l1 x5_1) != (rd l1 x6_2)) = false := bne_eq_false_iff_eq.mpr c36
               clear c36
               obtain rfl := Option.some.inj H
               try go_wp2
               have n0_ := Aside0.mk (below_drew1 HB.out)
               clear HB
               have HB := n0_
               clear n0_
               have p122 : 0 ≤ (x5_1 : Int) := ofd
               have q122 : x5_1 < (l1.length : Int) := ofd
               obtain ⟨ad122, e122, hx122_0⟩ := Kd.at_int HR1.out x5_1 p122 q122
               have hw122_0 := hx122_0
               cases e122
               replace hx122_0 := (HB.out.cell (World.block_lt_of_cell? w _ hx122_0)).trans hx122_0
               replace p122 := eq_true p122
               replace q122 := eq_true q122
               have p123 : 0 ≤ (x6_2 : Int) := ofd
               have q123 : x6_2 < (l1.length : Int) := ofd
               obtain ⟨ad123, e123, hx123_0⟩ := Kd.at_int HR1.out x6_2 p123 q123
               have hw123_0 := hx123_0
               obtain rfl : ad122 = ad123 := (by injection e123)
               replace hx123_0 := (HB.out.cell (World.block_lt_of_cell? w _ hx123_0)).trans hx123_0
               replace p123 := eq_true p123
               replace q123 := eq_true q123
               refine start_ (n := 23) (S := fun w' => w'.cell? (ad122.add (x5_1).toNat) = some (.int .i64 (rd l1 x5_1)) ∧ w'.cell? (ad122.add (x6_2).toNat) = some (.int .i64 (rd l1 x6_2))) (ds := []) #[false, false, false, false, false, false, false, false, false, false, false, false, false, false, false, false, false, false, false, false, false, false, false] (by kernel_rfl) rfl rfl ⟨((HB.out.cell (World.block_lt_of_cell? w _ hw122_0)).trans hw122_0), ((HB.out.cell (World.block_lt_of_cell? w _ hw123_0)).trans hw123_0)⟩ (fun hHeld => ?_); refine with_tabW gampref04_Ring.tab10 gampref04_Ring.bits10 (fun HT_ HW_ => ?_)
               generalize wr.drew = w37 at HB hx122_0 hx123_0 hHeld ⊢
               refine pr 0 37 HT_ ?_
               refine pr 1 38 HT_ ?_
               refine pr 2 39 HT_ ?_
               refine pr 4 41 HT_ ?_
               refine pr 5 42 HT_ ?_
               refine pr 6 43 HT_ ?_
               refine tr 3 40 HT_ HW_ hHeld ?_
               refine tr 7 44 HT_ HW_ hHeld ?_
               refine pr 8 45 HT_ ?_
               refine pr 9 46 HT_ ?_
               refine pure_ (i := 10) (N := some 47) (v := undef) (a' := ?_) #[true, true, true, true, true, true, true, true, true, true, true, false, false, false, false, false, false, false, false, false, false, false, false] rfl rfl (any_of HT_.out (by kernel_rfl)) (fun _ _ _ h => h) (Or.inr ⟨by rfl, rfl⟩) ?_ ?_
               rotate_left
               ·simp only [Act.put, List.setIfInBounds_toArray, List.set_cons_zero, List.set_cons_succ, i64_w, i32_w]
                rfl
               refine pure_ (i := 11) (N := some 48) (v := undef) (a' := ?_) #[true, true, true, true, true, true, true, true, true, true, true, true, false, false, false, false, false, false, false, false, false, false, false] rfl rfl (any_of HT_.out (by kernel_rfl)) (fun _ _ _ h => h) (Or.inr ⟨by rfl, rfl⟩) ?_ ?_
               rotate_left
               ·simp only [Act.put, List.setIfInBounds_toArray, List.set_cons_zero, List.set_cons_succ, i64_w, i32_w]
                rfl
               refine pure_ (i := 12) (N := some 49) (v := undef) (a' := ?_) #[true, true, true, true, true, true, true, true, true, true, true, true, true, false, false, false, false, false, false, false, false, false, false] rfl rfl (any_of HT_.out (by kernel_rfl)) (fun _ _ _ h => h) (Or.inr ⟨by rfl, rfl⟩) ?_ ?_
               rotate_left
               ·simp only [Act.put, List.setIfInBounds_toArray, List.set_cons_zero, List.set_cons_succ, i64_w, i32_w]
                rfl
               refine pure_ (i := 13) (N := some 50) (v := undef) (a' := ?_) #[true, true, true, true, true, true, true, true, true, true, true, true, true, true, false, false, false, false, false, false, false, false, false] rfl rfl (any_of HT_.out (by kernel_rfl)) (fun _ _ _ h => h) (Or.inr ⟨by rfl, rfl⟩) ?_ ?_
               rotate_left
               ·simp only [Act.put, List.setIfInBounds_toArray, List.set_cons_zero, List.set_cons_succ, i64_w, i32_w]
                rfl
               refine pure_ (i := 14) (N := some 51) (v := undef) (a' := ?_) #[true, true, true, true, true, true, true, true, true, true, true, true, true, true, true, false, false, false, false, false, false, false, false] rfl rfl (any_of HT_.out (by kernel_rfl)) (fun _ _ _ h => h) (Or.inr ⟨by rfl, rfl⟩) ?_ ?_
               rotate_left
               ·simp only [Act.put, List.setIfInBounds_toArray, List.set_cons_zero, List.set_cons_succ, i64_w, i32_w]
                rfl
               refine pure_ (i := 15) (N := some 52) (v := undef) (a' := ?_) #[true, true, true, true, true, true, true, true, true, true, true, true, true, true, true, true, false, false, false, false, false, false, false] rfl rfl (any_of HT_.out (by kernel_rfl)) (fun _ _ _ h => h) (Or.inr ⟨by rfl, rfl⟩) ?_ ?_
               rotate_left
               ·simp only [Act.put, List.setIfInBounds_toArray, List.set_cons_zero, List.set_cons_succ, i64_w, i32_w]
                rfl
               refine pure_ (i := 16) (N := some 53) (v := undef) (a' := ?_) #[true, true, true, true, true, true, true, true, true, true, true, true, true, true, true, true, true, false, false, false, false, false, false] rfl rfl (any_of HT_.out (by kernel_rfl)) (fun _ _ _ h => h) (Or.inr ⟨by rfl, rfl⟩) ?_ ?_
               rotate_left
               ·simp only [Act.put, List.setIfInBounds_toArray, List.set_cons_zero, List.set_cons_succ, i64_w, i32_w]
                rfl
               refine pure_ (i := 17) (N := some 54) (v := undef) (a' := ?_) #[true, true, true, true, true, true, true, true, true, true, true, true, true, true, true, true, true, true, false, false, false, false, false] rfl rfl (any_of HT_.out (by kernel_rfl)) (fun _ _ _ h => h) (Or.inr ⟨by rfl, rfl⟩) ?_ ?_
               rotate_left
               ·simp only [Act.put, List.setIfInBounds_toArray, List.set_cons_zero, List.set_cons_succ, i64_w, i32_w]
                rfl
               refine pure_ (i := 18) (N := some 55) (v := undef) (a' := ?_) #[true, true, true, true, true, true, true, true, true, true, true, true, true, true, true, true, true, true, true, false, false, false, false] rfl rfl (any_of HT_.out (by kernel_rfl)) (fun _ _ _ h => h) (Or.inr ⟨by rfl, rfl⟩) ?_ ?_
               rotate_left
               ·simp only [Act.put, List.setIfInBounds_toArray, List.set_cons_zero, List.set_cons_succ, i64_w, i32_w]
                rfl
               refine pure_ (i := 19) (N := some 56) (v := undef) (a' := ?_) #[true, true, true, true, true, true, true, true, true, true, true, true, true, true, true, true, true, true, true, true, false, false, false] rfl rfl (any_of HT_.out (by kernel_rfl)) (fun _ _ _ h => h) (Or.inr ⟨by rfl, rfl⟩) ?_ ?_
               rotate_left
               ·simp only [Act.put, List.setIfInBounds_toArray, List.set_cons_zero, List.set_cons_succ, i64_w, i32_w]
                rfl
               refine pure_ (i := 20) (N := some 57) (v := undef) (a' := ?_) #[true, true, true, true, true, true, true, true, true, true, true, true, true, true, true, true, true, true, true, true, true, false, false] rfl rfl (any_of HT_.out (by kernel_rfl)) (fun _ _ _ h => h) (Or.inr ⟨by rfl, rfl⟩) ?_ ?_
               rotate_left
               ·simp only [Act.put, List.setIfInBounds_toArray, List.set_cons_zero, List.set_cons_succ, i64_w, i32_w]
                rfl
               refine pure_ (i := 21) (N := some 58) (v := undef) (a' := ?_) #[true, true, true, true, true, true, true, true, true, true, true, true, true, true, true, true, true, true, true, true, true, true, false] rfl rfl (any_of HT_.out (by kernel_rfl)) (fun _ _ _ h => h) (Or.inr ⟨by rfl, rfl⟩) ?_ ?_
               rotate_left
               ·simp only [Act.put, List.setIfInBounds_toArray, List.set_cons_zero, List.set_cons_succ, i64_w, i32_w]
                rfl
               refine pr 22 59 HT_ ?_
               refine dn HT_ ?_
               try go_wp2
               go_ret
               exact ⟨by first | rfl | (simp [errW_none, errW_some] <;> rfl) | (simp [*, errW_none, errW_some] <;> rfl), by repeat (first | (with_reducible first | exact HB.out | apply below_alloc | apply pw_below_drewN | apply below_drew1) | exact HB.out)⟩
              ·rw [if_neg c36] at H
               have c36b0 : ((rd l1 x5_1) == (rd l1 x6_2)) = false := beq_eq_false_iff_ne.mpr c36
               have c36b1 : ((rd l1 x5_1) != (rd l1 x6_2)) = true := bne_iff_ne.mpr c36
               replace H := Option.bind_eq_some_iff.mp H
               obtain ⟨t126, A380, H⟩ := H
               replace H : (if (false != t126) = true then (some false) else (gampref04_Ring.l1 k2 l0 l1 x5_1 (wrap64 (x6_2 + 1)))) = some r := H
               have A38 := Aside0.mk A380
               clear A380
               by_cases c39 : (false != t126) = true
               ·rw [if_pos c39] at H
                have c39b0 : (false != t126) = true := c39
                (try (have c39b1 : decide (false = t126) = false := by simpa using c39))
                (try (have c39b2 : (false == t126) = false := by simpa using c39))
                (try (have c39b3 : ¬ (false = t126) := by simpa using c39))
                clear c39
                obtain rfl := Option.some.inj H
                try go_wp2
                have n0_ := Aside0.mk (below_drew1 HB.out)
                clear HB
                have HB := n0_
                clear n0_
                have p122 : 0 ≤ (x5_1 : Int) := ofd
                have q122 : x5_1 < (l1.length : Int) := ofd
                obtain ⟨ad122, e122, hx122_0⟩ := Kd.at_int HR1.out x5_1 p122 q122
                have hw122_0 := hx122_0
                cases e122
                replace hx122_0 := (HB.out.cell (World.block_lt_of_cell? w _ hx122_0)).trans hx122_0
                replace p122 := eq_true p122
                replace q122 := eq_true q122
                have p123 : 0 ≤ (x6_2 : Int) := ofd
                have q123 : x6_2 < (l1.length : Int) := ofd
                obtain ⟨ad123, e123, hx123_0⟩ := Kd.at_int HR1.out x6_2 p123 q123
                have hw123_0 := hx123_0
                obtain rfl : ad122 = ad123 := (by injection e123)
                replace hx123_0 := (HB.out.cell (World.block_lt_of_cell? w _ hx123_0)).trans hx123_0
                replace p123 := eq_true p123
                replace q123 := eq_true q123
                have p124 : 0 ≤ (x5_1 : Int) := ofd
                have q124 : x5_1 < (l1.length : Int) := ofd
                obtain ⟨ad124, e124, hx124_0⟩ := Kd.at_int HR1.out x5_1 p124 q124
                have hw124_0 := hx124_0
                obtain rfl : ad122 = ad124 := (by injection e124)
                replace hx124_0 := (HB.out.cell (World.block_lt_of_cell? w _ hx124_0)).trans hx124_0
                replace p124 := eq_true p124
                replace q124 := eq_true q124
                have p125 : 0 ≤ (x6_2 : Int) := ofd
                have q125 : x6_2 < (l1.length : Int) := ofd
                obtain ⟨ad125, e125, hx125_0⟩ := Kd.at_int HR1.out x6_2 p125 q125
                have hw125_0 := hx125_0
                obtain rfl : ad122 = ad125 := (by injection e125)
                replace hx125_0 := (HB.out.cell (World.block_lt_of_cell? w _ hx125_0)).trans hx125_0
                replace p125 := eq_true p125
                replace q125 := eq_true q125
                refine start_ (n := 23) (S := fun w' => w'.cell? (ad122.add (x5_1).toNat) = some (.int .i64 (rd l1 x5_1)) ∧ w'.cell? (ad122.add (x6_2).toNat) = some (.int .i64 (rd l1 x6_2)) ∧ w'.cell? (ad122.add (x5_1).toNat) = some (.int .i64 (rd l1 x5_1)) ∧ w'.cell? (ad122.add (x6_2).toNat) = some (.int .i64 (rd l1 x6_2))) (ds := []) #[false, false, false, false, false, false, false, false, false, false, false, false, false, false, false, false, false, false, false, false, false, false, false] (by kernel_rfl) rfl rfl ⟨((HB.out.cell (World.block_lt_of_cell? w _ hw122_0)).trans hw122_0), ((HB.out.cell (World.block_lt_of_cell? w _ hw123_0)).trans hw123_0), ((HB.out.cell (World.block_lt_of_cell? w _ hw124_0)).trans hw124_0), ((HB.out.cell (World.block_lt_of_cell? w _ hw125_0)).trans hw125_0)⟩ (fun hHeld => ?_); refine with_tabW gampref04_Ring.tab10 gampref04_Ring.bits10 (fun HT_ HW_ => ?_)
                generalize wr.drew = w40 at HB hx122_0 hx123_0 hx124_0 hx125_0 hHeld ⊢
                refine pr 0 37 HT_ ?_
                refine pr 1 38 HT_ ?_
                refine pr 2 39 HT_ ?_
                refine pr 4 41 HT_ ?_
                refine pr 5 42 HT_ ?_
                refine pr 6 43 HT_ ?_
                refine tr 3 40 HT_ HW_ hHeld ?_
                refine tr 7 44 HT_ HW_ hHeld ?_
                refine pr 8 45 HT_ ?_
                refine pr 9 46 HT_ ?_
                refine pr 10 47 HT_ ?_
                refine pr 11 48 HT_ ?_
                refine pr 12 49 HT_ ?_
                refine pr 13 50 HT_ ?_
                refine pr 14 51 HT_ ?_
                refine pr 16 53 HT_ ?_
                refine pr 17 54 HT_ ?_
                refine pr 18 55 HT_ ?_
                refine tr 15 52 HT_ HW_ hHeld ?_
                refine tr 19 56 HT_ HW_ hHeld ?_
                refine on 20 (some 57) HT_ (fun K hK => ?_)
                refine gS Try.func61 #[.slice A0 l0.length c0, .int .i64 (rd l1 x5_1), .int .i64 (rd l1 x6_2)] ?_
                with_reducible refine (Rx.gampref04_Near.calls k2 _ _ l0 (rd l1 x5_1) (rd l1 x6_2) t126 _ ?side1 ?side2 A38.out).mono ?_
                (case side1 => exact cl (Kd.C_below HR0.out HB.out))
                (case side2 => exact HC0.out)
                rintro e w41 ⟨rfl, hb⟩
                refine ⟨_, rfl, ?_⟩
                have n0_ := Aside0.mk (below_step (bl HB) hb)
                clear HB
                have HB := n0_
                clear n0_
                (try clear hb)
                (try clear hb2)
                (try clear hk)
                (try clear hi)
                refine hK.out _ _ ⟨((HB.out.cell (World.block_lt_of_cell? w _ hw122_0)).trans hw122_0), ((HB.out.cell (World.block_lt_of_cell? w _ hw123_0)).trans hw123_0), ((HB.out.cell (World.block_lt_of_cell? w _ hw124_0)).trans hw124_0), ((HB.out.cell (World.block_lt_of_cell? w _ hw125_0)).trans hw125_0)⟩ (fun hHeld => ?_)
                clear hK K
                refine nr (some 57) ?_
                refine pr 21 58 HT_ ?_
                refine pr 22 59 HT_ ?_
                refine dn HT_ ?_
                try go_wp2
                go_ret
                exact ⟨by first | rfl | (simp [errW_none, errW_some] <;> rfl) | (simp [*, errW_none, errW_some] <;> rfl), by repeat (first | (with_reducible first | exact HB.out | apply below_alloc | apply pw_below_drewN | apply below_drew1) | exact HB.out)⟩
               ·rw [if_neg c39] at H
                have c39b0 : (false != t126) = false := by simpa using c39
                (try (have c39b1 : decide (false = t126) = true := by simpa using c39))
                (try (have c39b2 : (false == t126) = true := by simpa using c39))
                clear c39
                have H' := Aside0.mk H
                clear H
                try go_wp2
                have n0_ := Aside0.mk (below_drew1 HB.out)
                clear HB
                have HB := n0_
                clear n0_
                have p122 : 0 ≤ (x5_1 : Int) := ofd
                have q122 : x5_1 < (l1.length : Int) := ofd
                obtain ⟨ad122, e122, hx122_0⟩ := Kd.at_int HR1.out x5_1 p122 q122
                have hw122_0 := hx122_0
                cases e122
                replace hx122_0 := (HB.out.cell (World.block_lt_of_cell? w _ hx122_0)).trans hx122_0
                replace p122 := eq_true p122
                replace q122 := eq_true q122
                have p123 : 0 ≤ (x6_2 : Int) := ofd
                have q123 : x6_2 < (l1.length : Int) := ofd
                obtain ⟨ad123, e123, hx123_0⟩ := Kd.at_int HR1.out x6_2 p123 q123
                have hw123_0 := hx123_0
                obtain rfl : ad122 = ad123 := (by injection e123)
                replace hx123_0 := (HB.out.cell (World.block_lt_of_cell? w _ hx123_0)).trans hx123_0
                replace p123 := eq_true p123
                replace q123 := eq_true q123
                have p124 : 0 ≤ (x5_1 : Int) := ofd
                have q124 : x5_1 < (l1.length : Int) := ofd
                obtain ⟨ad124, e124, hx124_0⟩ := Kd.at_int HR1.out x5_1 p124 q124
                have hw124_0 := hx124_0
                obtain rfl : ad122 = ad124 := (by injection e124)
                replace hx124_0 := (HB.out.cell (World.block_lt_of_cell? w _ hx124_0)).trans hx124_0
                replace p124 := eq_true p124
                replace q124 := eq_true q124
                have p125 : 0 ≤ (x6_2 : Int) := ofd
                have q125 : x6_2 < (l1.length : Int) := ofd
                obtain ⟨ad125, e125, hx125_0⟩ := Kd.at_int HR1.out x6_2 p125 q125
                have hw125_0 := hx125_0
                obtain rfl : ad122 = ad125 := (by injection e125)
                replace hx125_0 := (HB.out.cell (World.block_lt_of_cell? w _ hx125_0)).trans hx125_0
                replace p125 := eq_true p125
                replace q125 := eq_true q125
                refine start_ (n := 23) (S := fun w' => w'.cell? (ad122.add (x5_1).toNat) = some (.int .i64 (rd l1 x5_1)) ∧ w'.cell? (ad122.add (x6_2).toNat) = some (.int .i64 (rd l1 x6_2)) ∧ w'.cell? (ad122.add (x5_1).toNat) = some (.int .i64 (rd l1 x5_1)) ∧ w'.cell? (ad122.add (x6_2).toNat) = some (.int .i64 (rd l1 x6_2))) (ds := []) #[false, false, false, false, false, false, false, false, false, false, false, false, false, false, false, false, false, false, false, false, false, false, false] (by kernel_rfl) rfl rfl ⟨((HB.out.cell (World.block_lt_of_cell? w _ hw122_0)).trans hw122_0), ((HB.out.cell (World.block_lt_of_cell? w _ hw123_0)).trans hw123_0), ((HB.out.cell (World.block_lt_of_cell? w _ hw124_0)).trans hw124_0), ((HB.out.cell (World.block_lt_of_cell? w _ hw125_0)).trans hw125_0)⟩ (fun hHeld => ?_); refine with_tabW gampref04_Ring.tab10 gampref04_Ring.bits10 (fun HT_ HW_ => ?_)
                generalize wr.drew = w42 at HB hx122_0 hx123_0 hx124_0 hx125_0 hHeld ⊢
                refine pr 0 37 HT_ ?_
                refine pr 1 38 HT_ ?_
                refine pr 2 39 HT_ ?_
                refine pr 4 41 HT_ ?_
                refine pr 5 42 HT_ ?_
                refine pr 6 43 HT_ ?_
                refine tr 3 40 HT_ HW_ hHeld ?_
                refine tr 7 44 HT_ HW_ hHeld ?_
                refine pr 8 45 HT_ ?_
                refine pr 9 46 HT_ ?_
                refine pr 10 47 HT_ ?_
                refine pr 11 48 HT_ ?_
                refine pr 12 49 HT_ ?_
                refine pr 13 50 HT_ ?_
                refine pr 14 51 HT_ ?_
                refine pr 16 53 HT_ ?_
                refine pr 17 54 HT_ ?_
                refine pr 18 55 HT_ ?_
                refine tr 15 52 HT_ HW_ hHeld ?_
                refine tr 19 56 HT_ HW_ hHeld ?_
                refine on 20 (some 57) HT_ (fun K hK => ?_)
                refine gS Try.func61 #[.slice A0 l0.length c0, .int .i64 (rd l1 x5_1), .int .i64 (rd l1 x6_2)] ?_
                with_reducible refine (Rx.gampref04_Near.calls k2 _ _ l0 (rd l1 x5_1) (rd l1 x6_2) t126 _ ?side1 ?side2 A38.out).mono ?_
                (case side1 => exact cl (Kd.C_below HR0.out HB.out))
                (case side2 => exact HC0.out)
                rintro e w43 ⟨rfl, hb⟩
                refine ⟨_, rfl, ?_⟩
                have n0_ := Aside0.mk (below_step (bl HB) hb)
                clear HB
                have HB := n0_
                clear n0_
                (try clear hb)
                (try clear hb2)
                (try clear hk)
                (try clear hi)
                refine hK.out _ _ ⟨((HB.out.cell (World.block_lt_of_cell? w _ hw122_0)).trans hw122_0), ((HB.out.cell (World.block_lt_of_cell? w _ hw123_0)).trans hw123_0), ((HB.out.cell (World.block_lt_of_cell? w _ hw124_0)).trans hw124_0), ((HB.out.cell (World.block_lt_of_cell? w _ hw125_0)).trans hw125_0)⟩ (fun hHeld => ?_)
                clear hK K
                refine nr (some 57) ?_
                refine pr 21 58 HT_ ?_
                refine pr 22 59 HT_ ?_
                refine dn HT_ ?_
                try go_wp2
                go_roundg k2
                case measure => have := HK1.out; have := HK2.out; omega
                case rel => exact ⟨(wrap64 (x6_2 + 1)), (by first | rfl | (simp; done) | (simp [*]; done)), H', ⟨by have := HK1.out; have := HK2.out; omega⟩, ⟨bl HB⟩⟩
             ·rw [if_neg c35] at H
              exact absurd H (by simp)
            ·rw [if_neg c34] at H
             exact absurd H (by simp)
           ·rw [if_neg c33] at H
            exact absurd H (by simp)
          ·rw [if_neg c32] at H
           exact absurd H (by simp)
       ·rw [if_neg c5] at H
        have c5b0 : decide (x6_2 < x5_1) = false := decide_eq_false c5
        clear c5
        have H' := Aside0.mk H
        clear H
        go_wp2
        go_roundg k2
        case measure => have := HK1.out; have := HK2.out; omega
        case rel => exact ⟨(wrap64 (x5_1 + 1)), (by first | rfl | (simp; done) | (simp [*]; done)), H', ⟨by have := HK1.out; have := HK2.out; omega⟩, ⟨bl HB⟩⟩
    ·rw [if_neg c4] at H
     have c4b0 : decide (x5_1 < (l1.length : Int)) = false := decide_eq_false c4
     clear c4
     obtain rfl := Option.some.inj H
     go_wp2
     go_ret
     exact ⟨by first | rfl | (simp [errW_none, errW_some] <;> rfl) | (simp [*, errW_none, errW_some] <;> rfl), by repeat (first | (with_reducible first | exact HB.out | apply below_alloc | apply pw_below_drewN | apply below_drew1) | exact HB.out)⟩
end Go.Proofs.Ytdpolfflemocaaa.Re

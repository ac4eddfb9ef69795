/- The declarations of Gxx2 that the claim Qd needs. -/
import Derived.Test.YtiknnpfdpecfdaaQdTkP
import Derived.Test.YtiknnpfdpecfdaaQdGxx0
namespace Go.Proofs.Ytiknnpfdpecfdaa.Gx
open Go.RowKit Go.Proofs.Ytiknnpfdpecfdaa.Own Go.Proofs.Ytiknnpfdpecfdaa.Fey Go.Proofs.Ytiknnpfdpecfdaa.Fe Go.Proofs.YtiknnpfdpecfdaaW.PrintWords Go.Proofs.YtiknnpfdpecfdaaW.PrintLast Go.Proofs.YtiknnpfdpecfdaaW.PrintMore
attribute [local go_sem] max2_int min2_int max_two min_two max_three min_three max_four min_four
set_option linter.unusedVariables false
set_option linter.unusedSimpArgs false
def fold_step.l0 : Nat → List Int → ByteArray → Int → Int → Option (List Int × ByteArray × Bool)
  | 0, _, _, _, _ => none
  | k + 1, x0, x1, x7, x8 => if x8 < (wrap64 (x7 - 1)) then (if 0 ≤ x8 then (if x8 < (x0.length : Int) then (if 0 ≤ (wrap64 (x8 - 1)) then (if (wrap64 (x8 - 1)) < (x0.length : Int) then (if (rd x0 x8) ≤ (rd x0 (wrap64 (x8 - 1))) then (if 0 ≤ (wrap64 (x8 + 1)) then (if (wrap64 (x8 + 1)) < (x0.length : Int) then (if (rd x0 x8) ≤ (rd x0 (wrap64 (x8 + 1))) then (if (wrap64 (x8 - 1)) < (x1.size : Int) then (if x8 < (x1.size : Int) then (if (bt x1 (wrap64 (x8 - 1))) = (bt x1 x8) then (fold_step.l0 k x0 x1 x7 (wrap64 (x8 + 1))) else (if (wrap64 (x8 - 1)) ≤ (x0.length : Int) then (if 0 ≤ (wrap64 (x8 + 2)) then (if (wrap64 (x8 + 2)) ≤ (x0.length : Int) then ((fold_Concat.f (([(x0.take ((wrap64 (x8 - 1)) : Int).toNat), (([wrap64 ((wrap64 ((rd x0 (wrap64 (x8 - 1))) - (rd x0 x8))) + (rd x0 (wrap64 (x8 + 1))))] : List Int)), (x0.drop ((wrap64 (x8 + 2)) : Int).toNat)] : List (List Int)))).bind fun t156 => (if (wrap64 (x8 - 1)) ≤ (x1.size : Int) then (if (wrap64 (x8 + 1)) ≤ (x1.size : Int) then (if (x1.extract 0 ((wrap64 (x8 - 1)) : Int).toNat).size + (x1.extract ((wrap64 (x8 + 1)) : Int).toNat x1.size).size ≤ 9223372036854775807 then (some (t156, (x1.extract 0 ((wrap64 (x8 - 1)) : Int).toNat) ++ (x1.extract ((wrap64 (x8 + 1)) : Int).toNat x1.size), true)) else (none)) else (none)) else (none))) else (none)) else (none)) else (none))) else (none)) else (none)) else (fold_step.l0 k x0 x1 x7 (wrap64 (x8 + 1)))) else (none)) else (none)) else (fold_step.l0 k x0 x1 x7 (wrap64 (x8 + 1)))) else (none)) else (none)) else (none)) else (none)) else (some (x0, x1, false))
def fold_step.f (k : Nat) (l0 : List Int) (a1 : ByteArray) : Option (List Int × ByteArray × Bool) := if (l0.length : Int) < 2 then (some (l0, a1, false)) else (if 0 < (l0.length : Int) then (if 1 < (l0.length : Int) then (if (rd l0 0) ≤ (rd l0 1) then (if 1 ≤ (l0.length : Int) then (if 1 ≤ (a1.size : Int) then (some ((l0.drop 1), a1.extract 1 a1.size, true)) else (none)) else (none)) else (if 0 ≤ (wrap64 ((l0.length : Int) - 1)) then (if (wrap64 ((l0.length : Int) - 1)) < (l0.length : Int) then (if 0 ≤ (wrap64 ((l0.length : Int) - 2)) then (if (wrap64 ((l0.length : Int) - 2)) < (l0.length : Int) then (if (rd l0 (wrap64 ((l0.length : Int) - 1))) ≤ (rd l0 (wrap64 ((l0.length : Int) - 2))) then (if (wrap64 ((l0.length : Int) - 1)) ≤ (l0.length : Int) then (if (wrap64 ((l0.length : Int) - 2)) ≤ (a1.size : Int) then (some ((l0.take ((wrap64 ((l0.length : Int) - 1)) : Int).toNat), a1.extract 0 ((wrap64 ((l0.length : Int) - 2)) : Int).toNat, true)) else (none)) else (none)) else (fold_step.l0 k l0 a1 (l0.length : Int) 1)) else (none)) else (none)) else (none)) else (none))) else (none)) else (none))
theorem fold_step.mono_l : ∀ k, (∀ y0 y1 y2 y3, LeO (fold_step.l0 k y0 y1 y2 y3) (fold_step.l0 (k + 1) y0 y1 y2 y3))
 | 0 => fun _ _ _ _ r h => by simp [fold_step.l0] at h
 | k + 1 => by
  have ih0 := fold_step.mono_l k
  ·intro y0 y1 y2 y3
   unfold fold_step.l0
   repeat' first
   | (with_reducible exact ih0 _ _ _ _)
   | (with_reducible exact LeO.refl _)
   | (with_reducible exact LeO.none _)
   | (with_reducible refine LeO.ite ?_ ?_)
   | (with_reducible refine LeO.bind ?_ (fun _ => ?_))
   | exact ih0 _ _ _ _
   | exact LeO.none _
   | refine LeO.ite ?_ ?_
   | refine LeO.bind ?_ (fun _ => ?_)
theorem fold_step.mono : ∀ a0 a1 k, LeO (fold_step.f k a0 a1) (fold_step.f (k + 1) a0 a1) := by
  intro a0 a1 k
  have ih0 := fold_step.mono_l k
  unfold fold_step.f
  repeat' first
      | (with_reducible exact ih0 _ _ _ _)
      | (with_reducible exact LeO.refl _)
      | (with_reducible exact LeO.none _)
      | (with_reducible refine LeO.ite ?_ ?_)
      | (with_reducible refine LeO.bind ?_ (fun _ => ?_))
      | exact ih0 _ _ _ _
      | exact LeO.none _
      | refine LeO.ite ?_ ?_
      | refine LeO.bind ?_ (fun _ => ?_)
def fold_step.T6 : Bool × List (List Nat × List Nat) := (true, [([], []), ([], []), ([1], [1]), ([0, 2], [0, 2]), ([3], [3]), ([], []), ([], []), ([6], [6]), ([5, 7], [5, 7]), ([8], [8]), ([4, 9], [4, 9])])
def fold_step.B6 : List Nat := [0, 0, 2, 7, 15, 0, 0, 64, 224, 480, 1023]
theorem fold_step.tab6 : rtab .any (opsOf Try.f52 6) = fold_step.T6 := by kernel_rfl
theorem fold_step.bits6 : waitsOk fold_step.T6.2 fold_step.B6 = true := by kernel_rfl
def fold_step.T7 : Bool × List (List Nat × List Nat) := (true, [([], []), ([], []), ([1], [1]), ([0, 2], [0, 2]), ([], []), ([], []), ([5], [5]), ([4, 6], [4, 6]), ([3, 0, 1, 2, 3], [3]), ([7, 8, 0, 1, 2, 3, 4, 5, 6, 7, 8], [7]), ([9, 0, 1, 2, 3, 4, 5, 6, 7, 8, 9], [])])
def fold_step.B7 : List Nat := [0, 0, 2, 7, 0, 0, 32, 112, 15, 511, 1023]
theorem fold_step.tab7 : rtab .any (opsOf Try.f52 7) = fold_step.T7 := by kernel_rfl
theorem fold_step.bits7 : waitsOk fold_step.T7.2 fold_step.B7 = true := by kernel_rfl
def fold_step.T11 : Bool × List (List Nat × List Nat) := (true, [([], []), ([], []), ([0, 1], [0, 1]), ([2], [2]), ([], []), ([], []), ([5], [5]), ([4, 6], [4, 6]), ([7], [7]), ([3, 8], [3, 8]), ([9], [9]), ([10], [10]), ([10], [10]), ([11, 12, 10], [10, 11, 12]), ([13, 10], [10, 13]), ([10], [10]), ([10], [10]), ([16, 10], [10, 16]), ([15, 17, 10], [10, 15, 17]), ([18, 10], [10, 18]), ([14, 19, 10], [10, 14, 19]), ([10, 20], [10, 20]), ([21, 10], [21]), ([22], [22]), ([22], [22]), ([24, 22], [22, 24]), ([23, 25, 22], [22, 23, 25]), ([22], [22]), ([22], [22]), ([27, 28, 22], [22, 27, 28]), ([26, 29, 22], [22, 26, 29]), ([22, 30], [22, 30])])
def fold_step.B11 : List Nat := [0, 0, 3, 7, 0, 0, 32, 112, 240, 511, 1023, 2047, 2047, 8191, 16383, 2047, 2047, 67583, 231423, 493567, 1048575, 2097151, 4194303, 8388607, 8388607, 25165823, 67108863, 8388607, 8388607, 411041791, 1073741823, 2147483647]
theorem fold_step.tab11 : rtab .any (opsOf Try.f52 11) = fold_step.T11 := by kernel_rfl
theorem fold_step.bits11 : waitsOk fold_step.T11.2 fold_step.B11 = true := by kernel_rfl
def fold_step.T12 : Bool × List (List Nat × List Nat) := (true, [([], []), ([], []), ([1], [1]), ([0, 2], [0, 2]), ([], []), ([], []), ([5], [5]), ([4, 6], [4, 6]), ([7], [7]), ([], []), ([], []), ([9, 10], [9, 10]), ([11], [11]), ([8, 12], [8, 12]), ([], []), ([], []), ([15], [15]), ([14, 16], [14, 16]), ([17], [17]), ([13, 18], [13, 18]), ([19], [19]), ([], []), ([], []), ([22], [22]), ([21, 23], [21, 23]), ([3, 20, 24], [3, 20, 24]), ([25], [25]), ([], []), ([], []), ([28], [28]), ([27, 29], [27, 29]), ([], []), ([], []), ([32], [32]), ([31, 33], [31, 33]), ([30, 34], [30, 34]), ([26, 26, 0, 1, 2, 3, 4, 5, 6, 7, 8, 9, 10, 11, 12, 13, 14, 15, 16, 17, 18, 19, 20, 21, 22, 23, 24, 25, 26], [26]), ([35, 36, 0, 1, 2, 3, 4, 5, 6, 7, 8, 9, 10, 11, 12, 13, 14, 15, 16, 17, 18, 19, 20, 21, 22, 23, 24, 25, 26, 27, 28, 29, 30, 31, 32, 33, 34, 35, 36], [35]), ([37, 0, 1, 2, 3, 4, 5, 6, 7, 8, 9, 10, 11, 12, 13, 14, 15, 16, 17, 18, 19, 20, 21, 22, 23, 24, 25, 26, 27, 28, 29, 30, 31, 32, 33, 34, 35, 36, 37], [])])
def fold_step.B12 : List Nat := [0, 0, 2, 7, 0, 0, 32, 112, 240, 0, 0, 1536, 3584, 8176, 0, 0, 32768, 114688, 245760, 524272, 1048560, 0, 0, 4194304, 14680064, 33554431, 67108863, 0, 0, 268435456, 939524096, 0, 0, 4294967296, 15032385536, 34225520640, 134217727, 137438953471, 274877906943]
theorem fold_step.tab12 : rtab .any (opsOf Try.f52 12) = fold_step.T12 := by kernel_rfl
theorem fold_step.bits12 : waitsOk fold_step.T12.2 fold_step.B12 = true := by kernel_rfl
set_option maxHeartbeats 8000000 in
set_option maxRecDepth 100000 in
theorem fold_step.calls (k : Nat) (P0_ : Nat → Prop) (A0 : Option Addr) (c0 : Nat) (l0 : List Int) (a1 : ByteArray) (r1 : List Int) (r2 : ByteArray) (r3 : Bool) (w : World) (hs0 : Kd.V (Kd.int .i64) 3 w w.heap.size (fun k_ => P0_ k_) (.slice A0 l0.length c0) l0) (h : fold_step.f k l0 a1 = some (r1, r2, r3)) :
  Calls Try.prog 52 #[.slice A0 l0.length c0, .string a1] w fun e w' => ∃ v0_ : Value, e = .returned (.tuple #[v0_, .string r2, .bool r3]) ∧ Kd.V (Kd.int .i64) 3 w' w.heap.size (fun k_ => (P0_ k_ ∨ w.heap.size ≤ k_)) v0_ r1 ∧ Below w.heap.size w w' := by
 have HO0 := Aside0.mk (show Kd.V (Kd.int .i64) 3 w w.heap.size (fun k_ => (P0_ k_ ∨ w.heap.size ≤ k_)) (.slice A0 l0.length c0) l0 from Kd.V_mono hs0 (fun k_ hk => .inl hk))
 have HB := Aside0.mk (Below.refl w.heap.size w)
 have H : (if (l0.length : Int) < 2 then (some (l0, a1, false)) else (if 0 < (l0.length : Int) then (if 1 < (l0.length : Int) then (if (rd l0 0) ≤ (rd l0 1) then (if 1 ≤ (l0.length : Int) then (if 1 ≤ (a1.size : Int) then (some ((l0.drop 1), a1.extract 1 a1.size, true)) else (none)) else (none)) else (if 0 ≤ (wrap64 ((l0.length : Int) - 1)) then (if (wrap64 ((l0.length : Int) - 1)) < (l0.length : Int) then (if 0 ≤ (wrap64 ((l0.length : Int) - 2)) then (if (wrap64 ((l0.length : Int) - 2)) < (l0.length : Int) then (if (rd l0 (wrap64 ((l0.length : Int) - 1))) ≤ (rd l0 (wrap64 ((l0.length : Int) - 2))) then (if (wrap64 ((l0.length : Int) - 1)) ≤ (l0.length : Int) then (if (wrap64 ((l0.length : Int) - 2)) ≤ (a1.size : Int) then (some ((l0.take ((wrap64 ((l0.length : Int) - 1)) : Int).toNat), a1.extract 0 ((wrap64 ((l0.length : Int) - 2)) : Int).toNat, true)) else (none)) else (none)) else (fold_step.l0 k l0 a1 (l0.length : Int) 1)) else (none)) else (none)) else (none)) else (none))) else (none)) else (none))) = some (r1, r2, r3) := h
 clear h
 by_cases c3 : (l0.length : Int) < 2
 ·rw [if_pos c3] at H
  have c3b0 : decide ((l0.length : Int) < 2) = true := decide_eq_true c3
  have c3b1 : decide (l0.length < 2) = true := decide_eq_true (by omega)
  clear c3
  simp only [Option.some.injEq, Prod.mk.injEq] at H
  obtain ⟨rfl, rfl, rfl⟩ := H
  go_enter Try.func52, Try.ntmps52
  go_wp2
  go_ret3
  exact ⟨_, by first | rfl | (simp [errW_none, errW_some] <;> rfl) | (simp [*, errW_none, errW_some] <;> rfl), by (with_reducible repeat (first | apply Kd.V_alloc | apply Kd.V_drewN | apply Kd.V_drew)); exact HO0.out, by repeat (first | (with_reducible first | exact HB.out | apply below_alloc | apply pw_below_drewN | apply below_drew1) | exact HB.out)⟩
 ·rw [if_neg c3] at H
  have c3b0 : decide ((l0.length : Int) < 2) = false := decide_eq_false c3
  have c3b1 : decide (l0.length < 2) = false := decide_eq_false (by omega)
  clear c3
  by_cases c4 : 0 < (l0.length : Int)
  ·rw [if_pos c4] at H
   have c4b0 : decide (0 < (l0.length : Int)) = true := decide_eq_true c4
   have c4b1 : decide (0 < l0.length) = true := decide_eq_true (by omega)
   clear c4
   by_cases c5 : 1 < (l0.length : Int)
   ·rw [if_pos c5] at H
    have c5b0 : decide (1 < (l0.length : Int)) = true := decide_eq_true c5
    have c5b1 : decide (1 < l0.length) = true := decide_eq_true (by omega)
    clear c5
    by_cases c6 : (rd l0 0) ≤ (rd l0 1)
    ·rw [if_pos c6] at H
     have c6b0 : decide ((rd l0 0) ≤ (rd l0 1)) = true := decide_eq_true c6
     clear c6
     by_cases c7 : 1 ≤ (l0.length : Int)
     ·rw [if_pos c7] at H
      have c7b0 := eq_true c7
      have c7b1 : decide (1 ≤ (l0.length : Int)) = true := decide_eq_true c7
      clear c7
      obtain ⟨y121, hy121⟩ : ∃ y_ : List Int, y_ = (l0.drop 1) := ⟨_, rfl⟩
      replace H : (if 1 ≤ (a1.size : Int) then (some (y121, a1.extract 1 a1.size, true)) else (none)) = some (r1, r2, r3) := by first | (rw [hy121]; with_reducible exact H) | (have H2_ := (Option.bind_some _ _).symm.trans H; rw [hy121]; with_reducible exact H2_) | (have H2_ := (Option.bind_some _ _).symm.trans H; with_reducible exact H2_) | with_reducible exact H | (rw [hy121]; exact H) | exact H
      have Ny121 := Aside0.mk hy121
      clear hy121
      by_cases c8 : 1 ≤ (a1.size : Int)
      ·rw [if_pos c8] at H
       have c8b0 := eq_true c8
       have c8b1 : decide (1 ≤ (a1.size : Int)) = true := decide_eq_true c8
       clear c8
       simp only [Option.some.injEq, Prod.mk.injEq] at H
       obtain ⟨rfl, rfl, rfl⟩ := H
       go_enter Try.func52, Try.ntmps52
       try go_wp2
       have n0_ := Aside0.mk (Kd.V_drew HO0.out)
       have n1_ := Aside0.mk (below_drew1 HB.out)
       clear HO0
       clear HB
       have HO0 := n0_
       have HB := n1_
       clear n0_ n1_
       have p119 : 0 ≤ (0 : Int) := (by omega)
       have q119 : 0 < (l0.length : Int) := ofd
       obtain ⟨ad119, e119, hx119_0⟩ := Kd.at_int (Kd.V_reads' HO0.out).2.2 0 p119 q119
       cases e119
       have qi119 : (0 < l0.length) = True := eq_true (by omega)
       (try rw [show ((0 : Int)).toNat = 0 from rfl] at hx119_0)
       (try rw [Addr.add_zero'] at hx119_0)
       replace p119 := eq_true p119
       replace q119 := eq_true q119
       have p120 : 0 ≤ (1 : Int) := (by omega)
       have q120 : 1 < (l0.length : Int) := ofd
       obtain ⟨ad120, e120, hx120_0⟩ := Kd.at_int (Kd.V_reads' HO0.out).2.2 1 p120 q120
       obtain rfl : ad119 = ad120 := (by injection e120)
       (try simp only [show (1 : Int).toNat = 1 from rfl, Nat.reduceMul, Nat.reduceEqDiff, Go.Addr.add, ↓reduceIte] at hx120_0)
       have qi120 : (1 < l0.length) = True := eq_true (by omega)
       (try rw [show ((1 : Int)).toNat = 1 from rfl] at hx120_0)
       replace p120 := eq_true p120
       replace q120 := eq_true q120
       refine start_ (n := 7) (S := fun w' => w'.cell? ad119 = some (.int .i64 (rd l0 0)) ∧ w'.cell? ⟨ad119.block, ad119.off + 1, none⟩ = some (.int .i64 (rd l0 1))) (ds := []) #[false, false, false, false, false, false, false] (by kernel_rfl) rfl rfl ⟨hx119_0, hx120_0⟩ (fun hHeld => ?_)
       generalize w.drew = w9 at HO0 HB hx119_0 hx120_0 hHeld ⊢
       refine pure_ (i := 0) (N := some 15) (v := ?_) (a' := ?_) #[true, false, false, false, false, false, false] rfl rfl (by kernel_rfl) (fun _ _ _ h => h) (Or.inl ⟨by rfl, ?_⟩) ?_ ?_
       rotate_left
       ·intro w'
        go_simp
        with_reducible rfl
       rotate_left
       ·simp only [Act.put, List.setIfInBounds_toArray, List.set_cons_zero, List.set_cons_succ, i64_w, i32_w]
        rfl
       refine pure_ (i := 1) (N := some 16) (v := ?_) (a' := ?_) #[true, true, false, false, false, false, false] rfl rfl (by kernel_rfl) (fun _ _ _ h => h) (Or.inl ⟨by rfl, ?_⟩) ?_ ?_
       rotate_left
       ·intro w'
        go_simp
        with_reducible rfl
       rotate_left
       ·simp only [Act.put, List.setIfInBounds_toArray, List.set_cons_zero, List.set_cons_succ, i64_w, i32_w]
        rfl
       refine pure_ (i := 3) (N := some 18) (v := ?_) (a' := ?_) #[true, true, false, true, false, false, false] rfl rfl (by kernel_rfl) (fun _ _ _ h => h) (Or.inl ⟨by rfl, ?_⟩) ?_ ?_
       rotate_left
       ·intro w'
        go_simp
        with_reducible rfl
       rotate_left
       ·simp only [Act.put, List.setIfInBounds_toArray, List.set_cons_zero, List.set_cons_succ, i64_w, i32_w]
        rfl
       refine pure_ (i := 4) (N := some 19) (v := ?_) (a' := ?_) #[true, true, false, true, true, false, false] rfl rfl (by kernel_rfl) (fun _ _ _ h => h) (Or.inl ⟨by rfl, ?_⟩) ?_ ?_
       rotate_left
       ·intro w'
        go_simp
        with_reducible rfl
       rotate_left
       ·simp only [Act.put, List.setIfInBounds_toArray, List.set_cons_zero, List.set_cons_succ, i64_w, i32_w]
        rfl
       refine take_ (i := 2) (N := some 17) (v := ?_) (a' := ?_) #[true, true, true, true, true, false, false] rfl rfl (by kernel_rfl) (fun _ _ _ h => h) (Or.inl ⟨by rfl, ?_⟩) hHeld ?_ ?_
       rotate_left
       ·rintro w' ⟨s0, s1⟩
        go_simp
        with_reducible rfl
       rotate_left
       ·simp only [Act.put, List.setIfInBounds_toArray, List.set_cons_zero, List.set_cons_succ, i64_w, i32_w]
        rfl
       refine take_ (i := 5) (N := some 20) (v := ?_) (a' := ?_) #[true, true, true, true, true, true, false] rfl rfl (by kernel_rfl) (fun _ _ _ h => h) (Or.inl ⟨by rfl, ?_⟩) hHeld ?_ ?_
       rotate_left
       ·rintro w' ⟨s0, s1⟩
        go_simp
        with_reducible rfl
       rotate_left
       ·simp only [Act.put, List.setIfInBounds_toArray, List.set_cons_zero, List.set_cons_succ, i64_w, i32_w]
        rfl
       refine pure_ (i := 6) (N := some 21) (v := ?_) (a' := ?_) #[true, true, true, true, true, true, true] rfl rfl (by kernel_rfl) (fun _ _ _ h => h) (Or.inl ⟨by rfl, ?_⟩) ?_ ?_
       rotate_left
       ·intro w'
        go_simp
        with_reducible rfl
       rotate_left
       ·simp only [Act.put, List.setIfInBounds_toArray, List.set_cons_zero, List.set_cons_succ, i64_w, i32_w]
        rfl
       refine done_ (by kernel_rfl) ?_
       try go_wp2
       have n0_ := Aside0.mk (Kd.V_drew HO0.out)
       have n1_ := Aside0.mk (below_drew1 HB.out)
       clear HO0
       clear HB
       have HO0 := n0_
       have HB := n1_
       clear n0_ n1_
       have q11 : (1 : Int) ≤ ((l0.length : Int) : Int) := ofd
       obtain ⟨i011, hi011, _, hsz11, _⟩ := info_parts info3
       have hroom11 : l0.length ≤ c0 := (Kd.V_reads' HO0.out).2.1
       have hC11 : Kd.F (Kd.int .i64) _ _ (some ad119) l0.length l0 := (Kd.V_at (base := w.heap.size) HO0.out).2.2
       have hcut11 := cut_from (P := Try.prog) 22 3 .i64 Try.underlying22 hi011 1 hsz11 (some ad119) l0.length c0 1 (by omega) q11
       have hr11 := Kd.F_cut (m := (1 : Int).toNat) (c := c0) hC11 (by omega) hroom11
       obtain ⟨A11, hA11⟩ : ∃ A1, A1 = (if c0 = (1 : Int).toNat then (some ad119) else ((some ad119) : Option Addr).map (·.add ((1 : Int).toNat * 1))) := ⟨_, rfl⟩
       obtain ⟨c11, hc11⟩ : ∃ c1, c1 = c0 - (1 : Int).toNat := ⟨_, rfl⟩
       have hy11 : y121.length = l0.length - (1 : Int).toNat := (by rw [Ny121.out, List.length_drop] <;> omega)
       rw [show (l0).drop (1 : Int).toNat = y121 from Ny121.out.symm] at hr11
       replace hr11 : Kd.F (Kd.int .i64) _ _ A11 y121.length y121 := (by rw [hA11]; exact hr11)
       rw [← hy11, ← hA11, ← hc11] at hcut11
       have HO125 := Aside0.mk (show Kd.V (Kd.int .i64) 3 _ w.heap.size _ (.slice A11 y121.length c11) y121 from Kd.V_mk (by rw [hy11, hc11]; exact Nat.sub_le_sub_right hroom11 _) hr11)
       have HC125 := Aside0.mk (show y121.length ≤ c11 from by rw [hy11, hc11]; exact Nat.sub_le_sub_right hroom11 _)
       clear hr11 hC11 hroom11 hi011 hsz11 hc11
       have KY11 := Aside0.mk hy11
       have KA11 := Aside0.mk hA11
       clear hy11 hA11
       replace q11 := eq_true q11
       refine start_ (n := 7) (S := fun w' => True) (ds := []) #[false, false, false, false, false, false, false] (by kernel_rfl) rfl rfl trivial (fun hHeld => ?_)
       generalize w9.drew = w10 at HO0 HB HO125 hHeld ⊢
       refine pure_ (i := 0) (N := some 22) (v := ?_) (a' := ?_) #[true, false, false, false, false, false, false] rfl rfl (by kernel_rfl) (fun _ _ _ h => h) (Or.inl ⟨by rfl, ?_⟩) ?_ ?_
       rotate_left
       ·intro w'
        go_simp
        with_reducible rfl
       rotate_left
       ·simp only [Act.put, List.setIfInBounds_toArray, List.set_cons_zero, List.set_cons_succ, i64_w, i32_w]
        rfl
       refine pure_ (i := 1) (N := some 23) (v := ?_) (a' := ?_) #[true, true, false, false, false, false, false] rfl rfl (by kernel_rfl) (fun _ _ _ h => h) (Or.inl ⟨by rfl, ?_⟩) ?_ ?_
       rotate_left
       ·intro w'
        go_simp
        with_reducible rfl
       rotate_left
       ·simp only [Act.put, List.setIfInBounds_toArray, List.set_cons_zero, List.set_cons_succ, i64_w, i32_w]
        rfl
       refine pure_ (i := 2) (N := some 24) (v := ?_) (a' := ?_) #[true, true, true, false, false, false, false] rfl rfl (by kernel_rfl) (fun _ _ _ h => h) (Or.inl ⟨by rfl, ?_⟩) ?_ ?_
       rotate_left
       ·intro w'
        go_simp
        with_reducible rfl
       rotate_left
       ·simp only [Act.put, List.setIfInBounds_toArray, List.set_cons_zero, List.set_cons_succ, i64_w, i32_w]
        rfl
       refine pure_ (i := 3) (N := some 25) (v := ?_) (a' := ?_) #[true, true, true, true, false, false, false] rfl rfl (by kernel_rfl) (fun _ _ _ h => h) (Or.inl ⟨by rfl, ?_⟩) ?_ ?_
       rotate_left
       ·intro w'
        go_simp
        with_reducible rfl
       rotate_left
       ·simp only [Act.put, List.setIfInBounds_toArray, List.set_cons_zero, List.set_cons_succ, i64_w, i32_w]
        rfl
       refine pure_ (i := 4) (N := some 4) (v := ?_) (a' := ?_) #[true, true, true, true, true, false, false] rfl rfl (by kernel_rfl) (fun _ _ _ h => h) (Or.inl ⟨by rfl, ?_⟩) ?_ ?_
       rotate_left
       ·intro w'
        go_simp
        with_reducible rfl
       rotate_left
       ·simp only [Act.put, List.setIfInBounds_toArray, List.set_cons_zero, List.set_cons_succ, i64_w, i32_w]
        rfl
       refine pure_ (i := 5) (N := some 5) (v := ?_) (a' := ?_) #[true, true, true, true, true, true, false] rfl rfl (by kernel_rfl) (fun _ _ _ h => h) (Or.inl ⟨by rfl, ?_⟩) ?_ ?_
       rotate_left
       ·intro w'
        go_simp
        with_reducible rfl
       rotate_left
       ·simp only [Act.put, List.setIfInBounds_toArray, List.set_cons_zero, List.set_cons_succ, i64_w, i32_w]
        rfl
       refine pure_ (i := 6) (N := some 6) (v := ?_) (a' := ?_) #[true, true, true, true, true, true, true] rfl rfl (by kernel_rfl) (fun _ _ _ h => h) (Or.inl ⟨by rfl, ?_⟩) ?_ ?_
       rotate_left
       ·intro w'
        go_simp
        with_reducible rfl
       rotate_left
       ·simp only [Act.put, List.setIfInBounds_toArray, List.set_cons_zero, List.set_cons_succ, i64_w, i32_w]
        rfl
       refine done_ (by kernel_rfl) ?_
       try go_wp2
       go_ret3
       exact ⟨_, by first | rfl | (simp [errW_none, errW_some] <;> rfl) | (simp [*, errW_none, errW_some] <;> rfl), by (with_reducible repeat (first | apply Kd.V_alloc | apply Kd.V_drewN | apply Kd.V_drew)); exact HO125.out, by repeat (first | (with_reducible first | exact HB.out | apply below_alloc | apply pw_below_drewN | apply below_drew1) | exact HB.out)⟩
      ·rw [if_neg c8] at H
       exact absurd H (by simp)
     ·rw [if_neg c7] at H
      exact absurd H (by simp)
    ·rw [if_neg c6] at H
     have c6b0 : decide ((rd l0 0) ≤ (rd l0 1)) = false := decide_eq_false c6
     clear c6
     obtain ⟨ji12, hji12⟩ : ∃ j_ : Int, (wrap64 ((l0.length : Int) - 1)) = j_ := ⟨_, rfl⟩
     replace H : (if 0 ≤ (ji12) then (if (ji12) < (l0.length : Int) then (if 0 ≤ (wrap64 ((l0.length : Int) - 2)) then (if (wrap64 ((l0.length : Int) - 2)) < (l0.length : Int) then (if (rd l0 (ji12)) ≤ (rd l0 (wrap64 ((l0.length : Int) - 2))) then (if (ji12) ≤ (l0.length : Int) then (if (wrap64 ((l0.length : Int) - 2)) ≤ (a1.size : Int) then (some ((l0.take ((ji12) : Int).toNat), a1.extract 0 ((wrap64 ((l0.length : Int) - 2)) : Int).toNat, true)) else (none)) else (none)) else (fold_step.l0 k l0 a1 (l0.length : Int) 1)) else (none)) else (none)) else (none)) else (none)) = some (r1, r2, r3) := by first | (rw [hji12] at H; exact H) | (simp only [hji12] at H ⊢; exact H)
     have hji12w : (IntKind.i64.wrap ((l0.length : Int) - 1)) = ji12 := (i64_w _).trans hji12
     by_cases c13 : 0 ≤ (ji12)
     ·rw [if_pos c13] at H
      have c13b0 : decide (0 ≤ (ji12)) = true := decide_eq_true c13
      clear c13
      by_cases c14 : (ji12) < (l0.length : Int)
      ·rw [if_pos c14] at H
       have c14b0 : decide ((ji12) < (l0.length : Int)) = true := decide_eq_true c14
       clear c14
       obtain ⟨ji15, hji15⟩ : ∃ j_ : Int, (wrap64 ((l0.length : Int) - 2)) = j_ := ⟨_, rfl⟩
       replace H : (if 0 ≤ (ji15) then (if (ji15) < (l0.length : Int) then (if (rd l0 (ji12)) ≤ (rd l0 (ji15)) then (if (ji12) ≤ (l0.length : Int) then (if (ji15) ≤ (a1.size : Int) then (some ((l0.take ((ji12) : Int).toNat), a1.extract 0 ((ji15) : Int).toNat, true)) else (none)) else (none)) else (fold_step.l0 k l0 a1 (l0.length : Int) 1)) else (none)) else (none)) = some (r1, r2, r3) := by first | (rw [hji15] at H; exact H) | (simp only [hji15] at H ⊢; exact H)
       have hji15w : (IntKind.i64.wrap ((l0.length : Int) - 2)) = ji15 := (i64_w _).trans hji15
       by_cases c16 : 0 ≤ (ji15)
       ·rw [if_pos c16] at H
        have c16b0 : decide (0 ≤ (ji15)) = true := decide_eq_true c16
        clear c16
        by_cases c17 : (ji15) < (l0.length : Int)
        ·rw [if_pos c17] at H
         have c17b0 : decide ((ji15) < (l0.length : Int)) = true := decide_eq_true c17
         clear c17
         by_cases c18 : (rd l0 (ji12)) ≤ (rd l0 (ji15))
         ·rw [if_pos c18] at H
          have c18b0 : decide ((rd l0 (ji12)) ≤ (rd l0 (ji15))) = true := decide_eq_true c18
          clear c18
          have c19b0 := eq_true (ofd : 0 ≤ (ji12))
          by_cases c20 : (ji12) ≤ (l0.length : Int)
          ·rw [if_pos c20] at H
           have c20b0 := eq_true c20
           have c20b1 : decide ((ji12) ≤ (l0.length : Int)) = true := decide_eq_true c20
           clear c20
           obtain ⟨y128, hy128⟩ : ∃ y_ : List Int, y_ = (l0.take ((ji12) : Int).toNat) := ⟨_, rfl⟩
           replace H : (if (ji15) ≤ (a1.size : Int) then (some (y128, a1.extract 0 ((ji15) : Int).toNat, true)) else (none)) = some (r1, r2, r3) := by first | (rw [hy128]; with_reducible exact H) | (have H2_ := (Option.bind_some _ _).symm.trans H; rw [hy128]; with_reducible exact H2_) | (have H2_ := (Option.bind_some _ _).symm.trans H; with_reducible exact H2_) | with_reducible exact H | (rw [hy128]; exact H) | exact H
           have Ny128 := Aside0.mk hy128
           clear hy128
           have c21b0 := eq_true (ofd : 0 ≤ (ji15))
           by_cases c22 : (ji15) ≤ (a1.size : Int)
           ·rw [if_pos c22] at H
            have c22b0 := eq_true c22
            have c22b1 : decide ((ji15) ≤ (a1.size : Int)) = true := decide_eq_true c22
            clear c22
            simp only [Option.some.injEq, Prod.mk.injEq] at H
            obtain ⟨rfl, rfl, rfl⟩ := H
            go_enter Try.func52, Try.ntmps52
            try go_wp2
            have n0_ := Aside0.mk (Kd.V_drew HO0.out)
            have n1_ := Aside0.mk (below_drew1 HB.out)
            clear HO0
            clear HB
            have HO0 := n0_
            have HB := n1_
            clear n0_ n1_
            have p119 : 0 ≤ (0 : Int) := (by omega)
            have q119 : 0 < (l0.length : Int) := ofd
            obtain ⟨ad119, e119, hx119_0⟩ := Kd.at_int (Kd.V_reads' HO0.out).2.2 0 p119 q119
            cases e119
            have qi119 : (0 < l0.length) = True := eq_true (by omega)
            (try rw [show ((0 : Int)).toNat = 0 from rfl] at hx119_0)
            (try rw [Addr.add_zero'] at hx119_0)
            replace p119 := eq_true p119
            replace q119 := eq_true q119
            have p120 : 0 ≤ (1 : Int) := (by omega)
            have q120 : 1 < (l0.length : Int) := ofd
            obtain ⟨ad120, e120, hx120_0⟩ := Kd.at_int (Kd.V_reads' HO0.out).2.2 1 p120 q120
            obtain rfl : ad119 = ad120 := (by injection e120)
            (try simp only [show (1 : Int).toNat = 1 from rfl, Nat.reduceMul, Nat.reduceEqDiff, Go.Addr.add, ↓reduceIte] at hx120_0)
            have qi120 : (1 < l0.length) = True := eq_true (by omega)
            (try rw [show ((1 : Int)).toNat = 1 from rfl] at hx120_0)
            replace p120 := eq_true p120
            replace q120 := eq_true q120
            refine start_ (n := 7) (S := fun w' => w'.cell? ad119 = some (.int .i64 (rd l0 0)) ∧ w'.cell? ⟨ad119.block, ad119.off + 1, none⟩ = some (.int .i64 (rd l0 1))) (ds := []) #[false, false, false, false, false, false, false] (by kernel_rfl) rfl rfl ⟨hx119_0, hx120_0⟩ (fun hHeld => ?_)
            generalize w.drew = w23 at HO0 HB hx119_0 hx120_0 hHeld ⊢
            refine pure_ (i := 0) (N := some 15) (v := ?_) (a' := ?_) #[true, false, false, false, false, false, false] rfl rfl (by kernel_rfl) (fun _ _ _ h => h) (Or.inl ⟨by rfl, ?_⟩) ?_ ?_
            rotate_left
            ·intro w'
             go_simp
             with_reducible rfl
            rotate_left
            ·simp only [Act.put, List.setIfInBounds_toArray, List.set_cons_zero, List.set_cons_succ, i64_w, i32_w]
             rfl
            refine pure_ (i := 1) (N := some 16) (v := ?_) (a' := ?_) #[true, true, false, false, false, false, false] rfl rfl (by kernel_rfl) (fun _ _ _ h => h) (Or.inl ⟨by rfl, ?_⟩) ?_ ?_
            rotate_left
            ·intro w'
             go_simp
             with_reducible rfl
            rotate_left
            ·simp only [Act.put, List.setIfInBounds_toArray, List.set_cons_zero, List.set_cons_succ, i64_w, i32_w]
             rfl
            refine pure_ (i := 3) (N := some 18) (v := ?_) (a' := ?_) #[true, true, false, true, false, false, false] rfl rfl (by kernel_rfl) (fun _ _ _ h => h) (Or.inl ⟨by rfl, ?_⟩) ?_ ?_
            rotate_left
            ·intro w'
             go_simp
             with_reducible rfl
            rotate_left
            ·simp only [Act.put, List.setIfInBounds_toArray, List.set_cons_zero, List.set_cons_succ, i64_w, i32_w]
             rfl
            refine pure_ (i := 4) (N := some 19) (v := ?_) (a' := ?_) #[true, true, false, true, true, false, false] rfl rfl (by kernel_rfl) (fun _ _ _ h => h) (Or.inl ⟨by rfl, ?_⟩) ?_ ?_
            rotate_left
            ·intro w'
             go_simp
             with_reducible rfl
            rotate_left
            ·simp only [Act.put, List.setIfInBounds_toArray, List.set_cons_zero, List.set_cons_succ, i64_w, i32_w]
             rfl
            refine take_ (i := 2) (N := some 17) (v := ?_) (a' := ?_) #[true, true, true, true, true, false, false] rfl rfl (by kernel_rfl) (fun _ _ _ h => h) (Or.inl ⟨by rfl, ?_⟩) hHeld ?_ ?_
            rotate_left
            ·rintro w' ⟨s0, s1⟩
             go_simp
             with_reducible rfl
            rotate_left
            ·simp only [Act.put, List.setIfInBounds_toArray, List.set_cons_zero, List.set_cons_succ, i64_w, i32_w]
             rfl
            refine take_ (i := 5) (N := some 20) (v := ?_) (a' := ?_) #[true, true, true, true, true, true, false] rfl rfl (by kernel_rfl) (fun _ _ _ h => h) (Or.inl ⟨by rfl, ?_⟩) hHeld ?_ ?_
            rotate_left
            ·rintro w' ⟨s0, s1⟩
             go_simp
             with_reducible rfl
            rotate_left
            ·simp only [Act.put, List.setIfInBounds_toArray, List.set_cons_zero, List.set_cons_succ, i64_w, i32_w]
             rfl
            refine pure_ (i := 6) (N := some 21) (v := ?_) (a' := ?_) #[true, true, true, true, true, true, true] rfl rfl (by kernel_rfl) (fun _ _ _ h => h) (Or.inl ⟨by rfl, ?_⟩) ?_ ?_
            rotate_left
            ·intro w'
             go_simp
             with_reducible rfl
            rotate_left
            ·simp only [Act.put, List.setIfInBounds_toArray, List.set_cons_zero, List.set_cons_succ, i64_w, i32_w]
             rfl
            refine done_ (by kernel_rfl) ?_
            try go_wp2
            have n0_ := Aside0.mk (Kd.V_drew HO0.out)
            have n1_ := Aside0.mk (below_drew1 HB.out)
            clear HO0
            clear HB
            have HO0 := n0_
            have HB := n1_
            clear n0_ n1_
            have p126 : 0 ≤ ((ji12) : Int) := ofd
            have q126 : (ji12) < (l0.length : Int) := ofd
            obtain ⟨ad126, e126, hx126_0⟩ := Kd.at_int (Kd.V_reads' HO0.out).2.2 (ji12) p126 q126
            obtain rfl : ad119 = ad126 := (by injection e126)
            replace p126 := eq_true p126
            replace q126 := eq_true q126
            have p127 : 0 ≤ ((ji15) : Int) := ofd
            have q127 : (ji15) < (l0.length : Int) := ofd
            obtain ⟨ad127, e127, hx127_0⟩ := Kd.at_int (Kd.V_reads' HO0.out).2.2 (ji15) p127 q127
            obtain rfl : ad119 = ad127 := (by injection e127)
            replace p127 := eq_true p127
            replace q127 := eq_true q127
            refine start_ (n := 11) (S := fun w' => w'.cell? (ad119.add ((ji12)).toNat) = some (.int .i64 (rd l0 (ji12))) ∧ w'.cell? (ad119.add ((ji15)).toNat) = some (.int .i64 (rd l0 (ji15)))) (ds := []) #[false, false, false, false, false, false, false, false, false, false, false] (by kernel_rfl) rfl rfl ⟨hx126_0, hx127_0⟩ (fun hHeld => ?_); refine with_tabW fold_step.tab6 fold_step.bits6 (fun HT_ HW_ => ?_)
            generalize w23.drew = w24 at HO0 HB hx126_0 hx127_0 hHeld ⊢
            refine pr 0 26 HT_ ?_
            refine pr 1 27 HT_ ?_
            refine pr 2 28 HT_ ?_
            refine pr 3 29 HT_ ?_
            refine pr 5 31 HT_ ?_
            refine pr 6 32 HT_ ?_
            refine pr 7 33 HT_ ?_
            refine pr 8 34 HT_ ?_
            refine tr 4 30 HT_ HW_ hHeld ?_
            refine tr 9 35 HT_ HW_ hHeld ?_
            refine pr 10 36 HT_ ?_
            refine dn HT_ ?_
            try go_wp2
            have n0_ := Aside0.mk (Kd.V_drew HO0.out)
            have n1_ := Aside0.mk (below_drew1 HB.out)
            clear HO0
            clear HB
            have HO0 := n0_
            have HB := n1_
            clear n0_ n1_
            have q26 : ((ji12) : Int) ≤ ((l0.length : Int) : Int) := ofd
            obtain ⟨i026, hi026, _, hsz26, _⟩ := info_parts info3
            have hroom26 : l0.length ≤ c0 := (Kd.V_reads' HO0.out).2.1
            have hC26 : Kd.F (Kd.int .i64) _ _ (some ad119) l0.length l0 := (Kd.V_at (base := w.heap.size) HO0.out).2.2
            have hcut26 := cut_to (P := Try.prog) 22 3 .i64 Try.underlying22 hi026 (some ad119) l0.length c0 (ji12) (ofd) q26 hroom26
            have hr26 := Kd.F_take (m := ((ji12) : Int).toNat) hC26 (by omega)
            have hy26 : y128.length = ((ji12) : Int).toNat := (by rw [Ny128.out, List.length_take]; omega)
            rw [← Ny128.out] at hr26
            rw [← hy26] at hcut26
            have HO132 := Aside0.mk (show Kd.V (Kd.int .i64) 3 _ w.heap.size _ (.slice (some ad119) y128.length c0) y128 from Kd.V_mk (by omega) hr26)
            have HC132 := Aside0.mk (show y128.length ≤ c0 from by omega)
            clear hr26 hC26 hroom26 hi026 hsz26
            have KY26 := Aside0.mk hy26
            clear hy26
            replace q26 := eq_true q26
            refine start_ (n := 11) (S := fun w' => True) (ds := []) #[false, false, false, false, false, false, false, false, false, false, false] (by kernel_rfl) rfl rfl trivial (fun hHeld => ?_); refine with_tabW fold_step.tab7 fold_step.bits7 (fun HT_ HW_ => ?_)
            generalize w24.drew = w25 at HO0 HB HO132 hHeld ⊢
            refine pr 0 37 HT_ ?_
            refine pr 1 38 HT_ ?_
            refine pr 2 39 HT_ ?_
            refine pr 3 40 HT_ ?_
            refine pr 4 41 HT_ ?_
            refine pr 5 42 HT_ ?_
            refine pr 6 43 HT_ ?_
            refine pr 7 44 HT_ ?_
            refine pr 8 4 HT_ ?_
            refine pr 9 5 HT_ ?_
            refine pr 10 6 HT_ ?_
            refine dn HT_ ?_
            try go_wp2
            go_ret3
            exact ⟨_, by first | rfl | (simp [errW_none, errW_some] <;> rfl) | (simp only [← hji12, ← hji15]; first | rfl | (simp [errW_none, errW_some] <;> rfl)) | (simp [*, errW_none, errW_some] <;> rfl), by (with_reducible repeat (first | apply Kd.V_alloc | apply Kd.V_drewN | apply Kd.V_drew)); exact HO132.out, by repeat (first | (with_reducible first | exact HB.out | apply below_alloc | apply pw_below_drewN | apply below_drew1) | exact HB.out)⟩
           ·rw [if_neg c22] at H
            exact absurd H (by simp)
          ·rw [if_neg c20] at H
           exact absurd H (by simp)
         ·rw [if_neg c18] at H
          have c18b0 : decide ((rd l0 (ji12)) ≤ (rd l0 (ji15))) = false := decide_eq_false c18
          clear c18
          have H' := Aside0.mk H
          clear H
          go_enter Try.func52, Try.ntmps52
          try go_wp2
          have n0_ := Aside0.mk (Kd.V_drew HO0.out)
          have n1_ := Aside0.mk (below_drew1 HB.out)
          clear HO0
          clear HB
          have HO0 := n0_
          have HB := n1_
          clear n0_ n1_
          have p119 : 0 ≤ (0 : Int) := (by omega)
          have q119 : 0 < (l0.length : Int) := ofd
          obtain ⟨ad119, e119, hx119_0⟩ := Kd.at_int (Kd.V_reads' HO0.out).2.2 0 p119 q119
          cases e119
          have qi119 : (0 < l0.length) = True := eq_true (by omega)
          (try rw [show ((0 : Int)).toNat = 0 from rfl] at hx119_0)
          (try rw [Addr.add_zero'] at hx119_0)
          replace p119 := eq_true p119
          replace q119 := eq_true q119
          have p120 : 0 ≤ (1 : Int) := (by omega)
          have q120 : 1 < (l0.length : Int) := ofd
          obtain ⟨ad120, e120, hx120_0⟩ := Kd.at_int (Kd.V_reads' HO0.out).2.2 1 p120 q120
          obtain rfl : ad119 = ad120 := (by injection e120)
          (try simp only [show (1 : Int).toNat = 1 from rfl, Nat.reduceMul, Nat.reduceEqDiff, Go.Addr.add, ↓reduceIte] at hx120_0)
          have qi120 : (1 < l0.length) = True := eq_true (by omega)
          (try rw [show ((1 : Int)).toNat = 1 from rfl] at hx120_0)
          replace p120 := eq_true p120
          replace q120 := eq_true q120
          refine start_ (n := 7) (S := fun w' => w'.cell? ad119 = some (.int .i64 (rd l0 0)) ∧ w'.cell? ⟨ad119.block, ad119.off + 1, none⟩ = some (.int .i64 (rd l0 1))) (ds := []) #[false, false, false, false, false, false, false] (by kernel_rfl) rfl rfl ⟨hx119_0, hx120_0⟩ (fun hHeld => ?_)
          generalize w.drew = w27 at HO0 HB hx119_0 hx120_0 hHeld ⊢
          refine pure_ (i := 0) (N := some 15) (v := ?_) (a' := ?_) #[true, false, false, false, false, false, false] rfl rfl (by kernel_rfl) (fun _ _ _ h => h) (Or.inl ⟨by rfl, ?_⟩) ?_ ?_
          rotate_left
          ·intro w'
           go_simp
           with_reducible rfl
          rotate_left
          ·simp only [Act.put, List.setIfInBounds_toArray, List.set_cons_zero, List.set_cons_succ, i64_w, i32_w]
           rfl
          refine pure_ (i := 1) (N := some 16) (v := ?_) (a' := ?_) #[true, true, false, false, false, false, false] rfl rfl (by kernel_rfl) (fun _ _ _ h => h) (Or.inl ⟨by rfl, ?_⟩) ?_ ?_
          rotate_left
          ·intro w'
           go_simp
           with_reducible rfl
          rotate_left
          ·simp only [Act.put, List.setIfInBounds_toArray, List.set_cons_zero, List.set_cons_succ, i64_w, i32_w]
           rfl
          refine pure_ (i := 3) (N := some 18) (v := ?_) (a' := ?_) #[true, true, false, true, false, false, false] rfl rfl (by kernel_rfl) (fun _ _ _ h => h) (Or.inl ⟨by rfl, ?_⟩) ?_ ?_
          rotate_left
          ·intro w'
           go_simp
           with_reducible rfl
          rotate_left
          ·simp only [Act.put, List.setIfInBounds_toArray, List.set_cons_zero, List.set_cons_succ, i64_w, i32_w]
           rfl
          refine pure_ (i := 4) (N := some 19) (v := ?_) (a' := ?_) #[true, true, false, true, true, false, false] rfl rfl (by kernel_rfl) (fun _ _ _ h => h) (Or.inl ⟨by rfl, ?_⟩) ?_ ?_
          rotate_left
          ·intro w'
           go_simp
           with_reducible rfl
          rotate_left
          ·simp only [Act.put, List.setIfInBounds_toArray, List.set_cons_zero, List.set_cons_succ, i64_w, i32_w]
           rfl
          refine take_ (i := 2) (N := some 17) (v := ?_) (a' := ?_) #[true, true, true, true, true, false, false] rfl rfl (by kernel_rfl) (fun _ _ _ h => h) (Or.inl ⟨by rfl, ?_⟩) hHeld ?_ ?_
          rotate_left
          ·rintro w' ⟨s0, s1⟩
           go_simp
           with_reducible rfl
          rotate_left
          ·simp only [Act.put, List.setIfInBounds_toArray, List.set_cons_zero, List.set_cons_succ, i64_w, i32_w]
           rfl
          refine take_ (i := 5) (N := some 20) (v := ?_) (a' := ?_) #[true, true, true, true, true, true, false] rfl rfl (by kernel_rfl) (fun _ _ _ h => h) (Or.inl ⟨by rfl, ?_⟩) hHeld ?_ ?_
          rotate_left
          ·rintro w' ⟨s0, s1⟩
           go_simp
           with_reducible rfl
          rotate_left
          ·simp only [Act.put, List.setIfInBounds_toArray, List.set_cons_zero, List.set_cons_succ, i64_w, i32_w]
           rfl
          refine pure_ (i := 6) (N := some 21) (v := ?_) (a' := ?_) #[true, true, true, true, true, true, true] rfl rfl (by kernel_rfl) (fun _ _ _ h => h) (Or.inl ⟨by rfl, ?_⟩) ?_ ?_
          rotate_left
          ·intro w'
           go_simp
           with_reducible rfl
          rotate_left
          ·simp only [Act.put, List.setIfInBounds_toArray, List.set_cons_zero, List.set_cons_succ, i64_w, i32_w]
           rfl
          refine done_ (by kernel_rfl) ?_
          try go_wp2
          have n0_ := Aside0.mk (Kd.V_drew HO0.out)
          have n1_ := Aside0.mk (below_drew1 HB.out)
          clear HO0
          clear HB
          have HO0 := n0_
          have HB := n1_
          clear n0_ n1_
          have p126 : 0 ≤ ((ji12) : Int) := ofd
          have q126 : (ji12) < (l0.length : Int) := ofd
          obtain ⟨ad126, e126, hx126_0⟩ := Kd.at_int (Kd.V_reads' HO0.out).2.2 (ji12) p126 q126
          obtain rfl : ad119 = ad126 := (by injection e126)
          replace p126 := eq_true p126
          replace q126 := eq_true q126
          have p127 : 0 ≤ ((ji15) : Int) := ofd
          have q127 : (ji15) < (l0.length : Int) := ofd
          obtain ⟨ad127, e127, hx127_0⟩ := Kd.at_int (Kd.V_reads' HO0.out).2.2 (ji15) p127 q127
          obtain rfl : ad119 = ad127 := (by injection e127)
          replace p127 := eq_true p127
          replace q127 := eq_true q127
          refine start_ (n := 11) (S := fun w' => w'.cell? (ad119.add ((ji12)).toNat) = some (.int .i64 (rd l0 (ji12))) ∧ w'.cell? (ad119.add ((ji15)).toNat) = some (.int .i64 (rd l0 (ji15)))) (ds := []) #[false, false, false, false, false, false, false, false, false, false, false] (by kernel_rfl) rfl rfl ⟨hx126_0, hx127_0⟩ (fun hHeld => ?_); refine with_tabW fold_step.tab6 fold_step.bits6 (fun HT_ HW_ => ?_)
          generalize w27.drew = w28 at HO0 HB hx126_0 hx127_0 hHeld ⊢
          refine pr 0 26 HT_ ?_
          refine pr 1 27 HT_ ?_
          refine pr 2 28 HT_ ?_
          refine pr 3 29 HT_ ?_
          refine pr 5 31 HT_ ?_
          refine pr 6 32 HT_ ?_
          refine pr 7 33 HT_ ?_
          refine pr 8 34 HT_ ?_
          refine tr 4 30 HT_ HW_ hHeld ?_
          refine tr 9 35 HT_ HW_ hHeld ?_
          refine pr 10 36 HT_ ?_
          refine dn HT_ ?_
          try go_wp2
          go_loopg [8] k (fun kq v8 w' => ∃ (x8_1 : Int), v8 = .int .i64 x8_1 ∧ Aside0 (fold_step.l0 kq l0 a1 (l0.length : Int) x8_1 = some (r1, r2, r3)) ∧ Aside0 (kq ≤ k) ∧ Aside0 (Kd.V (Kd.int .i64) 3 w' w.heap.size (fun k_ => (P0_ k_ ∨ w.heap.size ≤ k_)) (.slice (some ad119) l0.length c0) l0) ∧ Aside0 (Below w.heap.size w w'))
          case atStart => exact ⟨(1), (by first | rfl | (simp; done) | (simp [*]; done)), H', ⟨Nat.le_refl _⟩, ⟨vl HO0⟩, ⟨bl HB⟩⟩
          case round =>
           clear H'
           try clear c1
           try clear p1
           try clear q1
           try clear hx1
           try clear qi1
           try clear c2
           try clear p2
           try clear q2
           try clear c5
           try clear c6
           try clear c6b0
           try clear p6
           try clear c7
           try clear c8
           try clear p11
           try clear q11
           try clear hx11
           try clear qi11
           try clear p12
           try clear q12
           try clear hx12
           try clear qi12
           try clear c13
           try clear c13b0
           try clear c14
           try clear c14b0
           try clear c16
           try clear c16b0
           try clear c17
           try clear c17b0
           try clear c18
           try clear c18b0
           try clear c19
           try clear c19b0
           try clear c20
           try clear c20b0
           try clear c20b1
           try clear c21
           try clear c21b0
           try clear c22
           try clear c22b0
           try clear c22b1
           try clear q26
           try clear hx119_0
           try clear hx120_0
           try clear hx126_0
           try clear hx127_0
           try clear p119
           try clear p120
           try clear p126
           try clear p127
           try clear q119
           try clear q120
           try clear q126
           try clear q127
           try clear q26
           obtain ⟨x8_1, rfl, HA, HK1, HO_0, HB⟩ := hrel
           cases gk with
           | zero => exact absurd HA.out (by simp [fold_step.l0])
           | succ k1 =>
            have H := HA.out
            clear HA
            simp only [fold_step.l0] at H
            by_cases c29 : x8_1 < (wrap64 ((l0.length : Int) - 1))
            ·rw [if_pos c29] at H
             have c29b0 : decide (x8_1 < (wrap64 ((l0.length : Int) - 1))) = true := decide_eq_true c29
             (try rw [hji12] at c29b0)
             clear c29
             by_cases c30 : 0 ≤ x8_1
             ·rw [if_pos c30] at H
              have c30b0 : decide (0 ≤ x8_1) = true := decide_eq_true c30
              clear c30
              by_cases c31 : x8_1 < (l0.length : Int)
              ·rw [if_pos c31] at H
               have c31b0 : decide (x8_1 < (l0.length : Int)) = true := decide_eq_true c31
               clear c31
               obtain ⟨ji32, hji32⟩ : ∃ j_ : Int, (wrap64 (x8_1 - 1)) = j_ := ⟨_, rfl⟩
               replace H : (if 0 ≤ (ji32) then (if (ji32) < (l0.length : Int) then (if (rd l0 x8_1) ≤ (rd l0 (ji32)) then (if 0 ≤ (wrap64 (x8_1 + 1)) then (if (wrap64 (x8_1 + 1)) < (l0.length : Int) then (if (rd l0 x8_1) ≤ (rd l0 (wrap64 (x8_1 + 1))) then (if (ji32) < (a1.size : Int) then (if x8_1 < (a1.size : Int) then (if (bt a1 (ji32)) = (bt a1 x8_1) then (fold_step.l0 k1 l0 a1 (l0.length : Int) (wrap64 (x8_1 + 1))) else (if (ji32) ≤ (l0.length : Int) then (if 0 ≤ (wrap64 (x8_1 + 2)) then (if (wrap64 (x8_1 + 2)) ≤ (l0.length : Int) then ((fold_Concat.f (([(l0.take ((ji32) : Int).toNat), (([wrap64 ((wrap64 ((rd l0 (ji32)) - (rd l0 x8_1))) + (rd l0 (wrap64 (x8_1 + 1))))] : List Int)), (l0.drop ((wrap64 (x8_1 + 2)) : Int).toNat)] : List (List Int)))).bind fun t156 => (if (ji32) ≤ (a1.size : Int) then (if (wrap64 (x8_1 + 1)) ≤ (a1.size : Int) then (if (a1.extract 0 ((ji32) : Int).toNat).size + (a1.extract ((wrap64 (x8_1 + 1)) : Int).toNat a1.size).size ≤ 9223372036854775807 then (some (t156, (a1.extract 0 ((ji32) : Int).toNat) ++ (a1.extract ((wrap64 (x8_1 + 1)) : Int).toNat a1.size), true)) else (none)) else (none)) else (none))) else (none)) else (none)) else (none))) else (none)) else (none)) else (fold_step.l0 k1 l0 a1 (l0.length : Int) (wrap64 (x8_1 + 1)))) else (none)) else (none)) else (fold_step.l0 k1 l0 a1 (l0.length : Int) (wrap64 (x8_1 + 1)))) else (none)) else (none)) = some (r1, r2, r3) := by first | (rw [hji32] at H; exact H) | (simp only [hji32] at H ⊢; exact H)
               have hji32w : (IntKind.i64.wrap (x8_1 - 1)) = ji32 := (i64_w _).trans hji32
               by_cases c33 : 0 ≤ (ji32)
               ·rw [if_pos c33] at H
                have c33b0 : decide (0 ≤ (ji32)) = true := decide_eq_true c33
                clear c33
                by_cases c34 : (ji32) < (l0.length : Int)
                ·rw [if_pos c34] at H
                 have c34b0 : decide ((ji32) < (l0.length : Int)) = true := decide_eq_true c34
                 clear c34
                 by_cases c35 : (rd l0 x8_1) ≤ (rd l0 (ji32))
                 ·rw [if_pos c35] at H
                  have c35b0 : decide ((rd l0 x8_1) ≤ (rd l0 (ji32))) = true := decide_eq_true c35
                  clear c35
                  obtain ⟨ji36, hji36⟩ : ∃ j_ : Int, (wrap64 (x8_1 + 1)) = j_ := ⟨_, rfl⟩
                  replace H : (if 0 ≤ (ji36) then (if (ji36) < (l0.length : Int) then (if (rd l0 x8_1) ≤ (rd l0 (ji36)) then (if (ji32) < (a1.size : Int) then (if x8_1 < (a1.size : Int) then (if (bt a1 (ji32)) = (bt a1 x8_1) then (fold_step.l0 k1 l0 a1 (l0.length : Int) ji36) else (if (ji32) ≤ (l0.length : Int) then (if 0 ≤ (wrap64 (x8_1 + 2)) then (if (wrap64 (x8_1 + 2)) ≤ (l0.length : Int) then ((fold_Concat.f (([(l0.take ((ji32) : Int).toNat), (([wrap64 ((wrap64 ((rd l0 (ji32)) - (rd l0 x8_1))) + (rd l0 (ji36)))] : List Int)), (l0.drop ((wrap64 (x8_1 + 2)) : Int).toNat)] : List (List Int)))).bind fun t156 => (if (ji32) ≤ (a1.size : Int) then (if (ji36) ≤ (a1.size : Int) then (if (a1.extract 0 ((ji32) : Int).toNat).size + (a1.extract ((ji36) : Int).toNat a1.size).size ≤ 9223372036854775807 then (some (t156, (a1.extract 0 ((ji32) : Int).toNat) ++ (a1.extract ((ji36) : Int).toNat a1.size), true)) else (none)) else (none)) else (none))) else (none)) else (none)) else (none))) else (none)) else (none)) else (fold_step.l0 k1 l0 a1 (l0.length : Int) ji36)) else (none)) else (none)) = some (r1, r2, r3) := by first | (rw [hji36] at H; exact H) | (simp only [hji36] at H ⊢; exact H)
                  have hji36w : (IntKind.i64.wrap (x8_1 + 1)) = ji36 := (i64_w _).trans hji36
                  by_cases c37 : 0 ≤ (ji36)
                  ·rw [if_pos c37] at H
                   have c37b0 : decide (0 ≤ (ji36)) = true := decide_eq_true c37
                   clear c37
                   by_cases c38 : (ji36) < (l0.length : Int)
                   ·rw [if_pos c38] at H
                    have c38b0 : decide ((ji36) < (l0.length : Int)) = true := decide_eq_true c38
                    clear c38
                    by_cases c39 : (rd l0 x8_1) ≤ (rd l0 (ji36))
                    ·rw [if_pos c39] at H
                     have c39b0 : decide ((rd l0 x8_1) ≤ (rd l0 (ji36))) = true := decide_eq_true c39
                     clear c39
                     by_cases c40 : (ji32) < (a1.size : Int)
                     ·rw [if_pos c40] at H
                      have c40b0 : decide ((ji32) < (a1.size : Int)) = true := decide_eq_true c40
                      clear c40
                      by_cases c42 : x8_1 < (a1.size : Int)
                      ·rw [if_pos c42] at H
                       have c42b0 : decide (x8_1 < (a1.size : Int)) = true := decide_eq_true c42
                       clear c42
                       by_cases c44 : (bt a1 (ji32)) = (bt a1 x8_1)
                       ·rw [if_pos c44] at H
                        have c44b0 : ((bt a1 (ji32)) == (bt a1 x8_1)) = true := beq_iff_eq.mpr c44
                        have c44b1 : ((bt a1 (ji32)) != (bt a1 x8_1)) = false := bne_eq_false_iff_eq.mpr c44
                        clear c44
                        have H' := Aside0.mk H
                        clear H
                        try go_wp2
                        have n0_ := Aside0.mk (Kd.V_drew HO_0.out)
                        have n1_ := Aside0.mk (below_drew1 HB.out)
                        clear HO_0
                        clear HB
                        have HO_0 := n0_
                        have HB := n1_
                        clear n0_ n1_
                        have p133 : 0 ≤ (x8_1 : Int) := ofd
                        have q133 : x8_1 < (l0.length : Int) := ofd
                        obtain ⟨ad133, e133, hx133_0⟩ := Kd.at_int (Kd.V_reads' HO_0.out).2.2 x8_1 p133 q133
                        obtain rfl : ad119 = ad133 := (by injection e133)
                        replace p133 := eq_true p133
                        replace q133 := eq_true q133
                        have p134 : 0 ≤ ((ji32) : Int) := ofd
                        have q134 : (ji32) < (l0.length : Int) := ofd
                        obtain ⟨ad134, e134, hx134_0⟩ := Kd.at_int (Kd.V_reads' HO_0.out).2.2 (ji32) p134 q134
                        obtain rfl : ad119 = ad134 := (by injection e134)
                        replace p134 := eq_true p134
                        replace q134 := eq_true q134
                        have p135 : 0 ≤ (x8_1 : Int) := ofd
                        have q135 : x8_1 < (l0.length : Int) := ofd
                        obtain ⟨ad135, e135, hx135_0⟩ := Kd.at_int (Kd.V_reads' HO_0.out).2.2 x8_1 p135 q135
                        obtain rfl : ad119 = ad135 := (by injection e135)
                        replace p135 := eq_true p135
                        replace q135 := eq_true q135
                        have p136 : 0 ≤ ((ji36) : Int) := ofd
                        have q136 : (ji36) < (l0.length : Int) := ofd
                        obtain ⟨ad136, e136, hx136_0⟩ := Kd.at_int (Kd.V_reads' HO_0.out).2.2 (ji36) p136 q136
                        obtain rfl : ad119 = ad136 := (by injection e136)
                        replace p136 := eq_true p136
                        replace q136 := eq_true q136
                        have p41 : 0 ≤ ((ji32) : Int) := ofd
                        have q41 : (ji32) < (a1.size : Int) := ofd
                        have hx41 := bt_at a1 (ji32)
                        replace p41 := eq_true p41
                        replace q41 := eq_true q41
                        have p43 : 0 ≤ (x8_1 : Int) := ofd
                        have q43 : x8_1 < (a1.size : Int) := ofd
                        have hx43 := bt_at a1 x8_1
                        replace p43 := eq_true p43
                        replace q43 := eq_true q43
                        refine start_ (n := 32) (S := fun w' => w'.cell? (ad119.add (x8_1).toNat) = some (.int .i64 (rd l0 x8_1)) ∧ w'.cell? (ad119.add ((ji32)).toNat) = some (.int .i64 (rd l0 (ji32))) ∧ w'.cell? (ad119.add (x8_1).toNat) = some (.int .i64 (rd l0 x8_1)) ∧ w'.cell? (ad119.add ((ji36)).toNat) = some (.int .i64 (rd l0 (ji36)))) (ds := []) #[false, false, false, false, false, false, false, false, false, false, false, false, false, false, false, false, false, false, false, false, false, false, false, false, false, false, false, false, false, false, false, false] (by kernel_rfl) rfl rfl ⟨hx133_0, hx134_0, hx135_0, hx136_0⟩ (fun hHeld => ?_); refine with_tabW fold_step.tab11 fold_step.bits11 (fun HT_ HW_ => ?_)
                        generalize wr.drew = w45 at HO_0 HB hx133_0 hx134_0 hx135_0 hx136_0 hHeld ⊢
                        refine pr 0 51 HT_ ?_
                        refine pr 1 52 HT_ ?_
                        refine pr 2 53 HT_ ?_
                        refine pr 4 55 HT_ ?_
                        refine pr 5 56 HT_ ?_
                        refine pr 6 57 HT_ ?_
                        refine pr 7 58 HT_ ?_
                        refine tr 3 54 HT_ HW_ hHeld ?_
                        refine tr 8 59 HT_ HW_ hHeld ?_
                        refine pr 9 60 HT_ ?_
                        refine pr 10 61 HT_ ?_
                        refine pr 11 62 HT_ ?_
                        refine pr 12 63 HT_ ?_
                        refine pr 13 64 HT_ ?_
                        refine pr 15 66 HT_ ?_
                        refine pr 16 67 HT_ ?_
                        refine pr 17 68 HT_ ?_
                        refine pr 18 69 HT_ ?_
                        refine tr 14 65 HT_ HW_ hHeld ?_
                        refine tr 19 70 HT_ HW_ hHeld ?_
                        refine pr 20 71 HT_ ?_
                        refine pr 21 72 HT_ ?_
                        refine pr 22 73 HT_ ?_
                        refine pr 23 74 HT_ ?_
                        refine pr 24 75 HT_ ?_
                        refine pr 25 76 HT_ ?_
                        refine pr 27 78 HT_ ?_
                        refine pr 28 79 HT_ ?_
                        refine tr 26 77 HT_ HW_ hHeld ?_
                        refine tr 29 80 HT_ HW_ hHeld ?_
                        refine pr 30 81 HT_ ?_
                        refine pr 31 82 HT_ ?_
                        refine dn HT_ ?_
                        try go_wp2
                        go_roundg k1
                        case measure => have := HK1.out; omega
                        case rel => exact ⟨(ji36), (by first | rfl | (simp; done) | (simp only [← hji36] <;> (first | rfl | simp)) | (simp [*]; done)), H', ⟨by have := HK1.out; omega⟩, ⟨vl HO_0⟩, ⟨bl HB⟩⟩
                       ·rw [if_neg c44] at H
                        have c44b0 : ((bt a1 (ji32)) == (bt a1 x8_1)) = false := beq_eq_false_iff_ne.mpr c44
                        have c44b1 : ((bt a1 (ji32)) != (bt a1 x8_1)) = true := bne_iff_ne.mpr c44
                        have c46b0 := eq_true (ofd : 0 ≤ (ji32))
                        by_cases c47 : (ji32) ≤ (l0.length : Int)
                        ·rw [if_pos c47] at H
                         have c47b0 := eq_true c47
                         have c47b1 : decide ((ji32) ≤ (l0.length : Int)) = true := decide_eq_true c47
                         clear c47
                         obtain ⟨y137, hy137⟩ : ∃ y_ : List Int, y_ = (l0.take ((ji32) : Int).toNat) := ⟨_, rfl⟩
                         replace H : (if 0 ≤ (wrap64 (x8_1 + 2)) then (if (wrap64 (x8_1 + 2)) ≤ (l0.length : Int) then ((fold_Concat.f (([y137, (([wrap64 ((wrap64 ((rd l0 (ji32)) - (rd l0 x8_1))) + (rd l0 (ji36)))] : List Int)), (l0.drop ((wrap64 (x8_1 + 2)) : Int).toNat)] : List (List Int)))).bind fun t156 => (if (ji32) ≤ (a1.size : Int) then (if (ji36) ≤ (a1.size : Int) then (if (a1.extract 0 ((ji32) : Int).toNat).size + (a1.extract ((ji36) : Int).toNat a1.size).size ≤ 9223372036854775807 then (some (t156, (a1.extract 0 ((ji32) : Int).toNat) ++ (a1.extract ((ji36) : Int).toNat a1.size), true)) else (none)) else (none)) else (none))) else (none)) else (none)) = some (r1, r2, r3) := by first | (rw [hy137]; with_reducible exact H) | (have H2_ := (Option.bind_some _ _).symm.trans H; rw [hy137]; with_reducible exact H2_) | (have H2_ := (Option.bind_some _ _).symm.trans H; with_reducible exact H2_) | with_reducible exact H | (rw [hy137]; exact H) | exact H
                         have Ny137 := Aside0.mk hy137
                         clear hy137
                         obtain ⟨y145, hy145⟩ : ∃ y_ : List Int, y_ = (([wrap64 ((wrap64 ((rd l0 (ji32)) - (rd l0 x8_1))) + (rd l0 (ji36)))] : List Int)) := ⟨_, rfl⟩
                         replace H : (if 0 ≤ (wrap64 (x8_1 + 2)) then (if (wrap64 (x8_1 + 2)) ≤ (l0.length : Int) then ((fold_Concat.f (([y137, y145, (l0.drop ((wrap64 (x8_1 + 2)) : Int).toNat)] : List (List Int)))).bind fun t156 => (if (ji32) ≤ (a1.size : Int) then (if (ji36) ≤ (a1.size : Int) then (if (a1.extract 0 ((ji32) : Int).toNat).size + (a1.extract ((ji36) : Int).toNat a1.size).size ≤ 9223372036854775807 then (some (t156, (a1.extract 0 ((ji32) : Int).toNat) ++ (a1.extract ((ji36) : Int).toNat a1.size), true)) else (none)) else (none)) else (none))) else (none)) else (none)) = some (r1, r2, r3) := by first | (rw [hy145]; with_reducible exact H) | (have H2_ := (Option.bind_some _ _).symm.trans H; rw [hy145]; with_reducible exact H2_) | (have H2_ := (Option.bind_some _ _).symm.trans H; with_reducible exact H2_) | with_reducible exact H | (rw [hy145]; exact H) | exact H
                         have Ny145 := Aside0.mk hy145
                         clear hy145
                         obtain ⟨ji48, hji48⟩ : ∃ j_ : Int, (wrap64 (x8_1 + 2)) = j_ := ⟨_, rfl⟩
                         replace H : (if 0 ≤ (ji48) then (if (ji48) ≤ (l0.length : Int) then ((fold_Concat.f (([y137, y145, (l0.drop ((ji48) : Int).toNat)] : List (List Int)))).bind fun t156 => (if (ji32) ≤ (a1.size : Int) then (if (ji36) ≤ (a1.size : Int) then (if (a1.extract 0 ((ji32) : Int).toNat).size + (a1.extract ((ji36) : Int).toNat a1.size).size ≤ 9223372036854775807 then (some (t156, (a1.extract 0 ((ji32) : Int).toNat) ++ (a1.extract ((ji36) : Int).toNat a1.size), true)) else (none)) else (none)) else (none))) else (none)) else (none)) = some (r1, r2, r3) := by first | (rw [hji48] at H; exact H) | (simp only [hji48] at H ⊢; exact H)
                         have hji48w : (IntKind.i64.wrap (x8_1 + 2)) = ji48 := (i64_w _).trans hji48
                         by_cases c49 : 0 ≤ (ji48)
                         ·rw [if_pos c49] at H
                          have c49b0 := eq_true c49
                          have c49b1 : decide (0 ≤ (ji48)) = true := decide_eq_true c49
                          clear c49
                          by_cases c50 : (ji48) ≤ (l0.length : Int)
                          ·rw [if_pos c50] at H
                           have c50b0 := eq_true c50
                           have c50b1 : decide ((ji48) ≤ (l0.length : Int)) = true := decide_eq_true c50
                           clear c50
                           obtain ⟨y148, hy148⟩ : ∃ y_ : List Int, y_ = (l0.drop ((ji48) : Int).toNat) := ⟨_, rfl⟩
                           replace H : ((fold_Concat.f (([y137, y145, y148] : List (List Int)))).bind fun t156 => (if (ji32) ≤ (a1.size : Int) then (if (ji36) ≤ (a1.size : Int) then (if (a1.extract 0 ((ji32) : Int).toNat).size + (a1.extract ((ji36) : Int).toNat a1.size).size ≤ 9223372036854775807 then (some (t156, (a1.extract 0 ((ji32) : Int).toNat) ++ (a1.extract ((ji36) : Int).toNat a1.size), true)) else (none)) else (none)) else (none))) = some (r1, r2, r3) := by first | (rw [hy148]; with_reducible exact H) | (have H2_ := (Option.bind_some _ _).symm.trans H; rw [hy148]; with_reducible exact H2_) | (have H2_ := (Option.bind_some _ _).symm.trans H; with_reducible exact H2_) | with_reducible exact H | (rw [hy148]; exact H) | exact H
                           have Ny148 := Aside0.mk hy148
                           clear hy148
                           obtain ⟨y153, hy153⟩ : ∃ y_ : List (List Int), y_ = (([y137, y145, y148] : List (List Int))) := ⟨_, rfl⟩
                           replace H : ((fold_Concat.f y153).bind fun t156 => (if (ji32) ≤ (a1.size : Int) then (if (ji36) ≤ (a1.size : Int) then (if (a1.extract 0 ((ji32) : Int).toNat).size + (a1.extract ((ji36) : Int).toNat a1.size).size ≤ 9223372036854775807 then (some (t156, (a1.extract 0 ((ji32) : Int).toNat) ++ (a1.extract ((ji36) : Int).toNat a1.size), true)) else (none)) else (none)) else (none))) = some (r1, r2, r3) := by first | (rw [hy153]; with_reducible exact H) | (have H2_ := (Option.bind_some _ _).symm.trans H; rw [hy153]; with_reducible exact H2_) | (have H2_ := (Option.bind_some _ _).symm.trans H; with_reducible exact H2_) | with_reducible exact H | (rw [hy153]; exact H) | exact H
                           have Ny153 := Aside0.mk hy153
                           clear hy153
                           replace H := Option.bind_eq_some_iff.mp H
                           obtain ⟨t156, A510, H⟩ := H
                           replace H : (if (ji32) ≤ (a1.size : Int) then (if (ji36) ≤ (a1.size : Int) then (if (a1.extract 0 ((ji32) : Int).toNat).size + (a1.extract ((ji36) : Int).toNat a1.size).size ≤ 9223372036854775807 then (some (t156, (a1.extract 0 ((ji32) : Int).toNat) ++ (a1.extract ((ji36) : Int).toNat a1.size), true)) else (none)) else (none)) else (none)) = some (r1, r2, r3) := H
                           have A51 := Aside0.mk A510
                           clear A510
                           have c52b0 := eq_true (ofd : 0 ≤ (ji32))
                           by_cases c53 : (ji32) ≤ (a1.size : Int)
                           ·rw [if_pos c53] at H
                            have c53b0 := eq_true c53
                            have c53b1 : decide ((ji32) ≤ (a1.size : Int)) = true := decide_eq_true c53
                            clear c53
                            have c54b0 := eq_true (ofd : 0 ≤ (ji36))
                            by_cases c55 : (ji36) ≤ (a1.size : Int)
                            ·rw [if_pos c55] at H
                             have c55b0 := eq_true c55
                             have c55b1 : decide ((ji36) ≤ (a1.size : Int)) = true := decide_eq_true c55
                             clear c55
                             by_cases c56 : (a1.extract 0 ((ji32) : Int).toNat).size + (a1.extract ((ji36) : Int).toNat a1.size).size ≤ 9223372036854775807
                             ·rw [if_pos c56] at H
                              have c56b0 := eq_true c56
                              have c56b1 : decide ((a1.extract 0 ((ji32) : Int).toNat).size + (a1.extract ((ji36) : Int).toNat a1.size).size ≤ 9223372036854775807) = true := decide_eq_true c56
                              have hcat : ¬ (9223372036854775807 < ji32.toNat + (a1.size - ji36.toNat)) := by
                               have h_ := c56
                               have h1_ : ji32.toNat ≤ a1.size := by
                                have h2_ := of_decide_eq_true c53b1
                                omega
                               simp only [ByteArray.size_extract, Nat.min_eq_left h1_, Nat.sub_zero, Nat.min_self] at h_
                               omega
                              try have c56b2 : (9223372036854775807 < (a1.extract 0 ((ji32) : Int).toNat).size + (a1.extract ((ji36) : Int).toNat a1.size).size) = False := eq_false (Nat.not_lt.2 c56)
                              simp only [Option.some.injEq, Prod.mk.injEq] at H
                              obtain ⟨rfl, rfl, rfl⟩ := H
                              try go_wp2
                              have n0_ := Aside0.mk (Kd.V_drew HO_0.out)
                              have n1_ := Aside0.mk (below_drew1 HB.out)
                              clear HO_0
                              clear HB
                              have HO_0 := n0_
                              have HB := n1_
                              clear n0_ n1_
                              have p133 : 0 ≤ (x8_1 : Int) := ofd
                              have q133 : x8_1 < (l0.length : Int) := ofd
                              obtain ⟨ad133, e133, hx133_0⟩ := Kd.at_int (Kd.V_reads' HO_0.out).2.2 x8_1 p133 q133
                              obtain rfl : ad119 = ad133 := (by injection e133)
                              replace p133 := eq_true p133
                              replace q133 := eq_true q133
                              have p134 : 0 ≤ ((ji32) : Int) := ofd
                              have q134 : (ji32) < (l0.length : Int) := ofd
                              obtain ⟨ad134, e134, hx134_0⟩ := Kd.at_int (Kd.V_reads' HO_0.out).2.2 (ji32) p134 q134
                              obtain rfl : ad119 = ad134 := (by injection e134)
                              replace p134 := eq_true p134
                              replace q134 := eq_true q134
                              have p135 : 0 ≤ (x8_1 : Int) := ofd
                              have q135 : x8_1 < (l0.length : Int) := ofd
                              obtain ⟨ad135, e135, hx135_0⟩ := Kd.at_int (Kd.V_reads' HO_0.out).2.2 x8_1 p135 q135
                              obtain rfl : ad119 = ad135 := (by injection e135)
                              replace p135 := eq_true p135
                              replace q135 := eq_true q135
                              have p136 : 0 ≤ ((ji36) : Int) := ofd
                              have q136 : (ji36) < (l0.length : Int) := ofd
                              obtain ⟨ad136, e136, hx136_0⟩ := Kd.at_int (Kd.V_reads' HO_0.out).2.2 (ji36) p136 q136
                              obtain rfl : ad119 = ad136 := (by injection e136)
                              replace p136 := eq_true p136
                              replace q136 := eq_true q136
                              have p41 : 0 ≤ ((ji32) : Int) := ofd
                              have q41 : (ji32) < (a1.size : Int) := ofd
                              have hx41 := bt_at a1 (ji32)
                              replace p41 := eq_true p41
                              replace q41 := eq_true q41
                              have p43 : 0 ≤ (x8_1 : Int) := ofd
                              have q43 : x8_1 < (a1.size : Int) := ofd
                              have hx43 := bt_at a1 x8_1
                              replace p43 := eq_true p43
                              replace q43 := eq_true q43
                              refine start_ (n := 32) (S := fun w' => w'.cell? (ad119.add (x8_1).toNat) = some (.int .i64 (rd l0 x8_1)) ∧ w'.cell? (ad119.add ((ji32)).toNat) = some (.int .i64 (rd l0 (ji32))) ∧ w'.cell? (ad119.add (x8_1).toNat) = some (.int .i64 (rd l0 x8_1)) ∧ w'.cell? (ad119.add ((ji36)).toNat) = some (.int .i64 (rd l0 (ji36)))) (ds := []) #[false, false, false, false, false, false, false, false, false, false, false, false, false, false, false, false, false, false, false, false, false, false, false, false, false, false, false, false, false, false, false, false] (by kernel_rfl) rfl rfl ⟨hx133_0, hx134_0, hx135_0, hx136_0⟩ (fun hHeld => ?_); refine with_tabW fold_step.tab11 fold_step.bits11 (fun HT_ HW_ => ?_)
                              generalize wr.drew = w57 at HO_0 HB hx133_0 hx134_0 hx135_0 hx136_0 hHeld ⊢
                              refine pr 0 51 HT_ ?_
                              refine pr 1 52 HT_ ?_
                              refine pr 2 53 HT_ ?_
                              refine pr 4 55 HT_ ?_
                              refine pr 5 56 HT_ ?_
                              refine pr 6 57 HT_ ?_
                              refine pr 7 58 HT_ ?_
                              refine tr 3 54 HT_ HW_ hHeld ?_
                              refine tr 8 59 HT_ HW_ hHeld ?_
                              refine pr 9 60 HT_ ?_
                              refine pr 10 61 HT_ ?_
                              refine pr 11 62 HT_ ?_
                              refine pr 12 63 HT_ ?_
                              refine pr 13 64 HT_ ?_
                              refine pr 15 66 HT_ ?_
                              refine pr 16 67 HT_ ?_
                              refine pr 17 68 HT_ ?_
                              refine pr 18 69 HT_ ?_
                              refine tr 14 65 HT_ HW_ hHeld ?_
                              refine tr 19 70 HT_ HW_ hHeld ?_
                              refine pr 20 71 HT_ ?_
                              refine pr 21 72 HT_ ?_
                              refine pr 22 73 HT_ ?_
                              refine pr 23 74 HT_ ?_
                              refine pr 24 75 HT_ ?_
                              refine pr 25 76 HT_ ?_
                              refine pr 27 78 HT_ ?_
                              refine pr 28 79 HT_ ?_
                              refine tr 26 77 HT_ HW_ hHeld ?_
                              refine tr 29 80 HT_ HW_ hHeld ?_
                              refine pr 30 81 HT_ ?_
                              refine pr 31 82 HT_ ?_
                              refine dn HT_ ?_
                              try go_wp2
                              have n0_ := Aside0.mk (Kd.V_drew HO_0.out)
                              have n1_ := Aside0.mk (below_drew1 HB.out)
                              clear HO_0
                              clear HB
                              have HO_0 := n0_
                              have HB := n1_
                              clear n0_ n1_
                              have q59 : ((ji32) : Int) ≤ ((l0.length : Int) : Int) := ofd
                              obtain ⟨i059, hi059, _, hsz59, _⟩ := info_parts info3
                              have hroom59 : l0.length ≤ c0 := (Kd.V_reads' HO_0.out).2.1
                              have hC59 : Kd.F (Kd.int .i64) _ _ (some ad119) l0.length l0 := (Kd.V_at (base := w.heap.size) HO_0.out).2.2
                              have hcut59 := cut_to (P := Try.prog) 22 3 .i64 Try.underlying22 hi059 (some ad119) l0.length c0 (ji32) (ofd) q59 hroom59
                              have hr59 := Kd.F_take (m := ((ji32) : Int).toNat) hC59 (by omega)
                              have hy59 : y137.length = ((ji32) : Int).toNat := (by rw [Ny137.out, List.length_take]; omega)
                              rw [← Ny137.out] at hr59
                              rw [← hy59] at hcut59
                              have HO141 := Aside0.mk (show Kd.V (Kd.int .i64) 3 _ w.heap.size _ (.slice (some ad119) y137.length c0) y137 from Kd.V_mk (by omega) hr59)
                              have HC141 := Aside0.mk (show y137.length ≤ c0 from by omega)
                              clear hr59 hC59 hroom59 hi059 hsz59
                              have KY59 := Aside0.mk hy59
                              clear hy59
                              replace q59 := eq_true q59
                              have p142 : 0 ≤ ((ji32) : Int) := ofd
                              have q142 : (ji32) < (l0.length : Int) := ofd
                              obtain ⟨ad142, e142, hx142_0⟩ := Kd.at_int (Kd.V_reads' HO_0.out).2.2 (ji32) p142 q142
                              obtain rfl : ad119 = ad142 := (by injection e142)
                              replace p142 := eq_true p142
                              replace q142 := eq_true q142
                              have p143 : 0 ≤ (x8_1 : Int) := ofd
                              have q143 : x8_1 < (l0.length : Int) := ofd
                              obtain ⟨ad143, e143, hx143_0⟩ := Kd.at_int (Kd.V_reads' HO_0.out).2.2 x8_1 p143 q143
                              obtain rfl : ad119 = ad143 := (by injection e143)
                              replace p143 := eq_true p143
                              replace q143 := eq_true q143
                              have p144 : 0 ≤ ((ji36) : Int) := ofd
                              have q144 : (ji36) < (l0.length : Int) := ofd
                              obtain ⟨ad144, e144, hx144_0⟩ := Kd.at_int (Kd.V_reads' HO_0.out).2.2 (ji36) p144 q144
                              obtain rfl : ad119 = ad144 := (by injection e144)
                              replace p144 := eq_true p144
                              replace q144 := eq_true q144
                              have q60 : ((ji48) : Int) ≤ ((l0.length : Int) : Int) := ofd
                              obtain ⟨i060, hi060, _, hsz60, _⟩ := info_parts info3
                              have hroom60 : l0.length ≤ c0 := (Kd.V_reads' HO_0.out).2.1
                              have hC60 : Kd.F (Kd.int .i64) _ _ (some ad119) l0.length l0 := (Kd.V_at (base := w.heap.size) HO_0.out).2.2
                              have q060 : (0 : Int) ≤ ((ji48) : Int) := ofd
                              have hcut60 := cut_from (P := Try.prog) 22 3 .i64 Try.underlying22 hi060 1 hsz60 (some ad119) l0.length c0 (ji48) q060 q60
                              have hr60 := Kd.F_cut (m := ((ji48) : Int).toNat) (c := c0) hC60 (by omega) hroom60
                              obtain ⟨A60, hA60⟩ : ∃ A1, A1 = (if c0 = ((ji48) : Int).toNat then (some ad119) else ((some ad119) : Option Addr).map (·.add (((ji48) : Int).toNat * 1))) := ⟨_, rfl⟩
                              obtain ⟨c60, hc60⟩ : ∃ c1, c1 = c0 - ((ji48) : Int).toNat := ⟨_, rfl⟩
                              have hy60 : y148.length = l0.length - ((ji48) : Int).toNat := (by rw [Ny148.out, List.length_drop] <;> omega)
                              rw [show (l0).drop ((ji48) : Int).toNat = y148 from Ny148.out.symm] at hr60
                              replace hr60 : Kd.F (Kd.int .i64) _ _ A60 y148.length y148 := (by rw [hA60]; exact hr60)
                              rw [← hy60, ← hA60, ← hc60] at hcut60
                              have HO152 := Aside0.mk (show Kd.V (Kd.int .i64) 3 _ w.heap.size _ (.slice A60 y148.length c60) y148 from Kd.V_mk (by rw [hy60, hc60]; exact Nat.sub_le_sub_right hroom60 _) hr60)
                              have HC152 := Aside0.mk (show y148.length ≤ c60 from by rw [hy60, hc60]; exact Nat.sub_le_sub_right hroom60 _)
                              clear hr60 hC60 hroom60 hi060 hsz60 hc60
                              have KY60 := Aside0.mk hy60
                              have KA60 := Aside0.mk hA60
                              clear hy60 hA60
                              replace q60 := eq_true q60
                              refine start_ (n := 39) (S := fun w' => w'.cell? (ad119.add ((ji32)).toNat) = some (.int .i64 (rd l0 (ji32))) ∧ w'.cell? (ad119.add (x8_1).toNat) = some (.int .i64 (rd l0 x8_1)) ∧ w'.cell? (ad119.add ((ji36)).toNat) = some (.int .i64 (rd l0 (ji36)))) (ds := []) #[false, false, false, false, false, false, false, false, false, false, false, false, false, false, false, false, false, false, false, false, false, false, false, false, false, false, false, false, false, false, false, false, false, false, false, false, false, false, false] (by kernel_rfl) rfl rfl ⟨hx142_0, hx143_0, hx144_0⟩ (fun hHeld => ?_); refine with_tabW fold_step.tab12 fold_step.bits12 (fun HT_ HW_ => ?_)
                              generalize w57.drew = w58 at HO_0 HB HO141 HO152 hx142_0 hx143_0 hx144_0 hHeld ⊢
                              refine pr 0 83 HT_ ?_
                              refine pr 1 84 HT_ ?_
                              refine pr 2 85 HT_ ?_
                              refine pr 3 86 HT_ ?_
                              refine pr 4 87 HT_ ?_
                              refine pr 5 88 HT_ ?_
                              refine pr 6 89 HT_ ?_
                              refine pr 7 90 HT_ ?_
                              refine pr 9 92 HT_ ?_
                              refine pr 10 93 HT_ ?_
                              refine pr 11 94 HT_ ?_
                              refine pr 14 97 HT_ ?_
                              refine pr 15 98 HT_ ?_
                              refine pr 16 99 HT_ ?_
                              refine pr 17 100 HT_ ?_
                              refine pr 21 104 HT_ ?_
                              refine pr 22 105 HT_ ?_
                              refine pr 23 106 HT_ ?_
                              refine pr 24 107 HT_ ?_
                              refine pr 27 110 HT_ ?_
                              refine pr 28 111 HT_ ?_
                              refine pr 29 112 HT_ ?_
                              refine pr 30 113 HT_ ?_
                              refine pr 31 114 HT_ ?_
                              refine pr 32 115 HT_ ?_
                              refine pr 33 116 HT_ ?_
                              refine pr 34 117 HT_ ?_
                              refine pure_ (i := 35) (N := some 118) (v := ?_) (a' := ?_) #[true, true, true, true, true, true, true, true, false, true, true, true, false, false, true, true, true, true, false, false, false, true, true, true, true, false, false, true, true, true, true, true, true, true, true, true, false, false, false] rfl rfl (any_of HT_.out (by kernel_rfl)) (fun _ _ _ h => h) (Or.inl ⟨by rfl, ?_⟩) ?_ ?_
                              rotate_left
                              ·intro w'
                               go_simp
                               (try rw [if_neg hcat]); with_reducible rfl
                              rotate_left
                              ·simp only [Act.put, List.setIfInBounds_toArray, List.set_cons_zero, List.set_cons_succ, i64_w, i32_w]
                               rfl
                              refine tr 8 91 HT_ HW_ hHeld ?_
                              refine tr 12 95 HT_ HW_ hHeld ?_
                              refine pr 13 96 HT_ ?_
                              refine tr 18 101 HT_ HW_ hHeld ?_
                              refine pr 19 102 HT_ ?_
                              refine on 20 (some 103) HT_ (fun K hK => ?_)
                              refine Kd.R_lit_step (Kd.int .i64) _ 3 ?hg (N := 103) ?hd (xs := ([wrap64 ((wrap64 ((rd l0 (ji32)) - (rd l0 x8_1))) + (rd l0 (ji36)))] : List Int)) (inner := [.int .i64 (wrap64 ((wrap64 ((rd l0 (ji32)) - (rd l0 x8_1))) + (rd l0 (ji36))))]) (ok := fun _ => True) (okp := fun _ => True) ?hr ?hp (fun _ hk => hk) trivial (Below.refl _ _) (Nat.le_refl _) (by simp) ?_; (case hd => rfl); (case hg => rfl); (case hr => first | (go_simp; done) | (go_simp; rfl)); (case hp => exact (Reps.one (show Kd.M (Kd.int .i64) _ _ _ (wrap64 ((wrap64 ((rd l0 (ji32)) - (rd l0 x8_1))) + (rd l0 (ji36)))) [.int .i64 (wrap64 ((wrap64 ((rd l0 (ji32)) - (rd l0 x8_1))) + (rd l0 (ji36))))] from rfl) (Reps.none _ _)))
                              intro v146 w61 ho62 hb hg_ hnew_
                              have HS0_ := (hb.cell (World.block_lt_of_cell? _ _ (hHeld.1))).trans (hHeld.1)
                              have HS1_ := (hb.cell (World.block_lt_of_cell? _ _ (hHeld.2.1))).trans (hHeld.2.1)
                              have HS2_ := (hb.cell (World.block_lt_of_cell? _ _ (hHeld.2.2))).trans (hHeld.2.2)
                              clear hg_ hnew_
                              (first | rw [← Ny145.out] at ho62 | (simp only [Int.reduceToNat] at ho62; rw [← Ny145.out] at ho62))
                              have n0_ := Aside0.mk (Kd.V_elder' (vl HO_0) (Kd.R_base ho62) hb)
                              have n1_ := Aside0.mk (Kd.V_elder' (vl HO141) (Kd.R_base ho62) hb)
                              have n2_ := Aside0.mk (Kd.V_elder' (vl HO152) (Kd.R_base ho62) hb)
                              have n3_ := Aside0.mk (Kd.R_lower (Kd.R_newM (M := fun k_ => (w.heap.size ≤ k_)) ho62 (below_size (bl HB)) (fun k_ h_ => h_)) (below_size (bl HB)))
                              have n4_ := Aside0.mk (below_step (bl HB) hb)
                              clear HO_0
                              clear HO141
                              clear HO152
                              clear HB
                              have HO_0 := n0_
                              have HO141 := n1_
                              have HO152 := n2_
                              have HO147 := n3_
                              have HB := n4_
                              clear n0_ n1_ n2_ n3_ n4_
                              clear hb ho62
                              obtain ⟨Ao63, co63, eo63⟩ := Kd.R_slice HO147.out
                              (first | subst eo63 | (injection eo63 with f1_ f2_ f3_; have f4_ := f1_.symm; have f5_ := f3_.symm; clear f1_ f2_ f3_; subst f4_; subst f5_))
                              refine hK.out _ _ ⟨HS0_, HS1_, HS2_⟩ (fun hHeld => ?_)
                              clear hK K
                              refine nr (some 103) ?_
                              refine on 25 (some 108) HT_ (fun K hK => ?_)
                              refine Kd.N_lit_step (Kd.slice 3 (Kd.int .i64)) _ 22 ?hg (N' := 108) ?hd (xs := ([y137, y145, y148] : List (List Int))) (inner := [.slice (some ad119) y137.length c0, .slice Ao63 y145.length co63, .slice A60 y148.length c60]) (ok := (fun k_ => (P0_ k_ ∨ w.heap.size ≤ k_))) (okp := (fun k_ => (P0_ k_ ∨ w.heap.size ≤ k_))) ?hr ?hp (fun _ hk => hk) ((show ∀ k_, w61.heap.size ≤ k_ → (fun k_ => (P0_ k_ ∨ w.heap.size ≤ k_)) k_ from fun k_ hk => (.inr (Nat.le_trans (below_size (bl HB)) hk))) _ (Nat.le_refl _)) (Below.refl _ _) (Nat.le_refl _) (by simp) ?_; (case hd => rfl); (case hg => rfl); (case hr => first | (go_simp; done) | (go_simp; rfl)); (case hp => exact (Reps.one (show Kd.FK (Kd.slice 3 (Kd.int .i64)) _ _ y137 [.slice (some ad119) y137.length c0] from (Kd.FK_slice_mk (Kd.V_reads' (Kd.V_mono (ok' := (fun k_ => (P0_ k_ ∨ w.heap.size ≤ k_))) (HO141.out) (fun k_ hk => hk.1))).2.1 (Kd.V_F (Kd.V_mono (ok' := (fun k_ => (P0_ k_ ∨ w.heap.size ≤ k_))) (HO141.out) (fun k_ hk => hk.1))))) (Reps.one (show Kd.FK (Kd.slice 3 (Kd.int .i64)) _ _ y145 [.slice Ao63 y145.length co63] from (Kd.FK_slice_mk (Kd.R_reads' (Kd.R_mono (ok' := (fun k_ => (P0_ k_ ∨ w.heap.size ≤ k_))) (HO147.out) (fun k_ hk => (.inr (hk.1))))).2.1 (Kd.R_F (Kd.R_mono (ok' := (fun k_ => (P0_ k_ ∨ w.heap.size ≤ k_))) (HO147.out) (fun k_ hk => (.inr (hk.1))))))) (Reps.one (show Kd.FK (Kd.slice 3 (Kd.int .i64)) _ _ y148 [.slice A60 y148.length c60] from (Kd.FK_slice_mk (Kd.V_reads' (Kd.V_mono (ok' := (fun k_ => (P0_ k_ ∨ w.heap.size ≤ k_))) (HO152.out) (fun k_ hk => hk.1))).2.1 (Kd.V_F (Kd.V_mono (ok' := (fun k_ => (P0_ k_ ∨ w.heap.size ≤ k_))) (HO152.out) (fun k_ hk => hk.1))))) (Reps.none _ _)))))
                              intro v154 w64 ho65 hb hg_ hnew_
                              have HS0_ := (hb.cell (World.block_lt_of_cell? _ _ (hHeld.1))).trans (hHeld.1)
                              have HS1_ := (hb.cell (World.block_lt_of_cell? _ _ (hHeld.2.1))).trans (hHeld.2.1)
                              have HS2_ := (hb.cell (World.block_lt_of_cell? _ _ (hHeld.2.2))).trans (hHeld.2.2)
                              clear hg_ hnew_
                              (first | rw [← Ny153.out] at ho65 | (simp only [Int.reduceToNat] at ho65; rw [← Ny153.out] at ho65))
                              have n0_ := Aside0.mk (Kd.V_elder' (vl HO_0) (Kd.N_base ho65) hb)
                              have n1_ := Aside0.mk (Kd.V_elder' (vl HO141) (Kd.N_base ho65) hb)
                              have n2_ := Aside0.mk (Kd.V_elder' (vl HO152) (Kd.N_base ho65) hb)
                              have n3_ := Aside0.mk (Kd.N_lower ho65 (below_size (bl HB)))
                              have n4_ := Aside0.mk (below_step (bl HB) hb)
                              clear HO_0
                              clear HO141
                              clear HO152
                              clear HB
                              clear HO147
                              have HO_0 := n0_
                              have HO141 := n1_
                              have HO152 := n2_
                              have HO155 := n3_
                              have HB := n4_
                              clear n0_ n1_ n2_ n3_ n4_
                              clear hb ho65
                              obtain ⟨Ao66, co66, eo66⟩ := Kd.N_slice HO155.out
                              (first | subst eo66 | (injection eo66 with f1_ f2_ f3_; have f4_ := f1_.symm; have f5_ := f3_.symm; clear f1_ f2_ f3_; subst f4_; subst f5_))
                              refine hK.out _ _ ⟨HS0_, HS1_, HS2_⟩ (fun hHeld => ?_)
                              clear hK K
                              refine nr (some 108) ?_
                              refine on 26 (some 109) HT_ (fun K hK => ?_)
                              refine gS Try.func76 #[.slice Ao66 y153.length co66] ?_
                              with_reducible refine (fold_Concat.calls _ _ y153 t156 _ ?side1 ?side2 A51.out).mono ?_
                              (case side1 => exact cl ((Kd.N_reads' HO155.out).2.2))
                              (case side2 => exact (Kd.N_reads' HO155.out).2.1)
                              rintro e w67 ⟨v157, rfl, ho0, hb⟩
                              have HS0_ := (hb.cell (World.block_lt_of_cell? _ _ (hHeld.1))).trans (hHeld.1)
                              have HS1_ := (hb.cell (World.block_lt_of_cell? _ _ (hHeld.2.1))).trans (hHeld.2.1)
                              have HS2_ := (hb.cell (World.block_lt_of_cell? _ _ (hHeld.2.2))).trans (hHeld.2.2)
                              refine ⟨_, rfl, ?_⟩
                              have n0_ := Aside0.mk (Kd.V_elder' (vl HO_0) (Kd.R_base ho0) hb)
                              have n1_ := Aside0.mk (Kd.V_elder' (vl HO141) (Kd.R_base ho0) hb)
                              have n2_ := Aside0.mk (Kd.V_elder' (vl HO152) (Kd.R_base ho0) hb)
                              have n3_ := Aside0.mk (Kd.N_elder' (nl HO155) (Kd.R_base ho0) hb)
                              have n4_ := Aside0.mk (Kd.R_lower (Kd.R_newM (M := fun k_ => (w.heap.size ≤ k_)) ho0 (below_size (bl HB)) (fun k_ h_ => h_)) (below_size (bl HB)))
                              have n5_ := Aside0.mk (below_step (bl HB) hb)
                              clear HO_0
                              clear HO141
                              clear HO152
                              clear HO155
                              clear HB
                              have HO_0 := n0_
                              have HO141 := n1_
                              have HO152 := n2_
                              have HO155 := n3_
                              have HO158 := n4_
                              have HB := n5_
                              clear n0_ n1_ n2_ n3_ n4_ n5_
                              (try clear hb)
                              (try clear hb2)
                              (try clear hk)
                              (try clear hi)
                              (try clear ho0)
                              refine hK.out _ _ ⟨HS0_, HS1_, HS2_⟩ (fun hHeld => ?_)
                              clear hK K
                              refine nr (some 109) ?_
                              refine pr 36 4 HT_ ?_
                              refine pr 37 5 HT_ ?_
                              refine pr 38 6 HT_ ?_
                              refine dn HT_ ?_
                              try go_wp2
                              go_ret3
                              exact ⟨_, by first | rfl | (simp [errW_none, errW_some] <;> rfl) | (simp only [← hji12, ← hji15, ← hji32, ← hji36, ← hji48]; first | rfl | (simp [errW_none, errW_some] <;> rfl)) | (simp [*, errW_none, errW_some] <;> rfl), Kd.V_mono (Kd.R_V (by (with_reducible repeat (first | apply Kd.R_alloc | apply Kd.R_drewN | apply Kd.R_drew)); exact Kd.R_mono HO158.out (fun _ hk => hk.1))) (fun k_ hk => by first | exact ⟨(.inr (hk.1)), hk.2⟩ | exact (.inr (hk))), by repeat (first | (with_reducible first | exact HB.out | apply below_alloc | apply pw_below_drewN | apply below_drew1) | exact HB.out)⟩
                             ·rw [if_neg c56] at H
                              exact absurd H (by simp)
                            ·rw [if_neg c55] at H
                             exact absurd H (by simp)
                           ·rw [if_neg c53] at H
                            exact absurd H (by simp)
                          ·rw [if_neg c50] at H
                           exact absurd H (by simp)
                         ·rw [if_neg c49] at H
                          exact absurd H (by simp)
                        ·rw [if_neg c47] at H
                         exact absurd H (by simp)
                      ·rw [if_neg c42] at H
                       exact absurd H (by simp)
                     ·rw [if_neg c40] at H
                      exact absurd H (by simp)
                    ·rw [if_neg c39] at H
                     have c39b0 : decide ((rd l0 x8_1) ≤ (rd l0 (ji36))) = false := decide_eq_false c39
                     clear c39
                     have H' := Aside0.mk H
                     clear H
                     try go_wp2
                     have n0_ := Aside0.mk (Kd.V_drew HO_0.out)
                     have n1_ := Aside0.mk (below_drew1 HB.out)
                     clear HO_0
                     clear HB
                     have HO_0 := n0_
                     have HB := n1_
                     clear n0_ n1_
                     have p133 : 0 ≤ (x8_1 : Int) := ofd
                     have q133 : x8_1 < (l0.length : Int) := ofd
                     obtain ⟨ad133, e133, hx133_0⟩ := Kd.at_int (Kd.V_reads' HO_0.out).2.2 x8_1 p133 q133
                     obtain rfl : ad119 = ad133 := (by injection e133)
                     replace p133 := eq_true p133
                     replace q133 := eq_true q133
                     have p134 : 0 ≤ ((ji32) : Int) := ofd
                     have q134 : (ji32) < (l0.length : Int) := ofd
                     obtain ⟨ad134, e134, hx134_0⟩ := Kd.at_int (Kd.V_reads' HO_0.out).2.2 (ji32) p134 q134
                     obtain rfl : ad119 = ad134 := (by injection e134)
                     replace p134 := eq_true p134
                     replace q134 := eq_true q134
                     have p135 : 0 ≤ (x8_1 : Int) := ofd
                     have q135 : x8_1 < (l0.length : Int) := ofd
                     obtain ⟨ad135, e135, hx135_0⟩ := Kd.at_int (Kd.V_reads' HO_0.out).2.2 x8_1 p135 q135
                     obtain rfl : ad119 = ad135 := (by injection e135)
                     replace p135 := eq_true p135
                     replace q135 := eq_true q135
                     have p136 : 0 ≤ ((ji36) : Int) := ofd
                     have q136 : (ji36) < (l0.length : Int) := ofd
                     obtain ⟨ad136, e136, hx136_0⟩ := Kd.at_int (Kd.V_reads' HO_0.out).2.2 (ji36) p136 q136
                     obtain rfl : ad119 = ad136 := (by injection e136)
                     replace p136 := eq_true p136
                     replace q136 := eq_true q136
                     refine start_ (n := 32) (S := fun w' => w'.cell? (ad119.add (x8_1).toNat) = some (.int .i64 (rd l0 x8_1)) ∧ w'.cell? (ad119.add ((ji32)).toNat) = some (.int .i64 (rd l0 (ji32))) ∧ w'.cell? (ad119.add (x8_1).toNat) = some (.int .i64 (rd l0 x8_1)) ∧ w'.cell? (ad119.add ((ji36)).toNat) = some (.int .i64 (rd l0 (ji36)))) (ds := []) #[false, false, false, false, false, false, false, false, false, false, false, false, false, false, false, false, false, false, false, false, false, false, false, false, false, false, false, false, false, false, false, false] (by kernel_rfl) rfl rfl ⟨hx133_0, hx134_0, hx135_0, hx136_0⟩ (fun hHeld => ?_); refine with_tabW fold_step.tab11 fold_step.bits11 (fun HT_ HW_ => ?_)
                     generalize wr.drew = w68 at HO_0 HB hx133_0 hx134_0 hx135_0 hx136_0 hHeld ⊢
                     refine pr 0 51 HT_ ?_
                     refine pr 1 52 HT_ ?_
                     refine pr 2 53 HT_ ?_
                     refine pr 4 55 HT_ ?_
                     refine pr 5 56 HT_ ?_
                     refine pr 6 57 HT_ ?_
                     refine pr 7 58 HT_ ?_
                     refine tr 3 54 HT_ HW_ hHeld ?_
                     refine tr 8 59 HT_ HW_ hHeld ?_
                     refine pr 9 60 HT_ ?_
                     refine pr 10 61 HT_ ?_
                     refine pr 11 62 HT_ ?_
                     refine pr 12 63 HT_ ?_
                     refine pr 13 64 HT_ ?_
                     refine pr 15 66 HT_ ?_
                     refine pr 16 67 HT_ ?_
                     refine pr 17 68 HT_ ?_
                     refine pr 18 69 HT_ ?_
                     refine tr 14 65 HT_ HW_ hHeld ?_
                     refine tr 19 70 HT_ HW_ hHeld ?_
                     refine pr 20 71 HT_ ?_
                     refine pr 21 72 HT_ ?_
                     refine pr 22 73 HT_ ?_
                     refine pure_ (i := 23) (N := some 74) (v := undef) (a' := ?_) #[true, true, true, true, true, true, true, true, true, true, true, true, true, true, true, true, true, true, true, true, true, true, true, true, false, false, false, false, false, false, false, false] rfl rfl (any_of HT_.out (by kernel_rfl)) (fun _ _ _ h => h) (Or.inr ⟨by rfl, rfl⟩) ?_ ?_
                     rotate_left
                     ·simp only [Act.put, List.setIfInBounds_toArray, List.set_cons_zero, List.set_cons_succ, i64_w, i32_w]
                      rfl
                     refine pure_ (i := 24) (N := some 75) (v := undef) (a' := ?_) #[true, true, true, true, true, true, true, true, true, true, true, true, true, true, true, true, true, true, true, true, true, true, true, true, true, false, false, false, false, false, false, false] rfl rfl (any_of HT_.out (by kernel_rfl)) (fun _ _ _ h => h) (Or.inr ⟨by rfl, rfl⟩) ?_ ?_
                     rotate_left
                     ·simp only [Act.put, List.setIfInBounds_toArray, List.set_cons_zero, List.set_cons_succ, i64_w, i32_w]
                      rfl
                     refine pure_ (i := 25) (N := some 76) (v := undef) (a' := ?_) #[true, true, true, true, true, true, true, true, true, true, true, true, true, true, true, true, true, true, true, true, true, true, true, true, true, true, false, false, false, false, false, false] rfl rfl (any_of HT_.out (by kernel_rfl)) (fun _ _ _ h => h) (Or.inr ⟨by rfl, rfl⟩) ?_ ?_
                     rotate_left
                     ·simp only [Act.put, List.setIfInBounds_toArray, List.set_cons_zero, List.set_cons_succ, i64_w, i32_w]
                      rfl
                     refine pure_ (i := 26) (N := some 77) (v := undef) (a' := ?_) #[true, true, true, true, true, true, true, true, true, true, true, true, true, true, true, true, true, true, true, true, true, true, true, true, true, true, true, false, false, false, false, false] rfl rfl (any_of HT_.out (by kernel_rfl)) (fun _ _ _ h => h) (Or.inr ⟨by rfl, rfl⟩) ?_ ?_
                     rotate_left
                     ·simp only [Act.put, List.setIfInBounds_toArray, List.set_cons_zero, List.set_cons_succ, i64_w, i32_w]
                      rfl
                     refine pure_ (i := 27) (N := some 78) (v := undef) (a' := ?_) #[true, true, true, true, true, true, true, true, true, true, true, true, true, true, true, true, true, true, true, true, true, true, true, true, true, true, true, true, false, false, false, false] rfl rfl (any_of HT_.out (by kernel_rfl)) (fun _ _ _ h => h) (Or.inr ⟨by rfl, rfl⟩) ?_ ?_
                     rotate_left
                     ·simp only [Act.put, List.setIfInBounds_toArray, List.set_cons_zero, List.set_cons_succ, i64_w, i32_w]
                      rfl
                     refine pure_ (i := 28) (N := some 79) (v := undef) (a' := ?_) #[true, true, true, true, true, true, true, true, true, true, true, true, true, true, true, true, true, true, true, true, true, true, true, true, true, true, true, true, true, false, false, false] rfl rfl (any_of HT_.out (by kernel_rfl)) (fun _ _ _ h => h) (Or.inr ⟨by rfl, rfl⟩) ?_ ?_
                     rotate_left
                     ·simp only [Act.put, List.setIfInBounds_toArray, List.set_cons_zero, List.set_cons_succ, i64_w, i32_w]
                      rfl
                     refine pure_ (i := 29) (N := some 80) (v := undef) (a' := ?_) #[true, true, true, true, true, true, true, true, true, true, true, true, true, true, true, true, true, true, true, true, true, true, true, true, true, true, true, true, true, true, false, false] rfl rfl (any_of HT_.out (by kernel_rfl)) (fun _ _ _ h => h) (Or.inr ⟨by rfl, rfl⟩) ?_ ?_
                     rotate_left
                     ·simp only [Act.put, List.setIfInBounds_toArray, List.set_cons_zero, List.set_cons_succ, i64_w, i32_w]
                      rfl
                     refine pure_ (i := 30) (N := some 81) (v := undef) (a' := ?_) #[true, true, true, true, true, true, true, true, true, true, true, true, true, true, true, true, true, true, true, true, true, true, true, true, true, true, true, true, true, true, true, false] rfl rfl (any_of HT_.out (by kernel_rfl)) (fun _ _ _ h => h) (Or.inr ⟨by rfl, rfl⟩) ?_ ?_
                     rotate_left
                     ·simp only [Act.put, List.setIfInBounds_toArray, List.set_cons_zero, List.set_cons_succ, i64_w, i32_w]
                      rfl
                     refine pr 31 82 HT_ ?_
                     refine dn HT_ ?_
                     try go_wp2
                     go_roundg k1
                     case measure => have := HK1.out; omega
                     case rel => exact ⟨(ji36), (by first | rfl | (simp; done) | (simp only [← hji36] <;> (first | rfl | simp)) | (simp [*]; done)), H', ⟨by have := HK1.out; omega⟩, ⟨vl HO_0⟩, ⟨bl HB⟩⟩
                   ·rw [if_neg c38] at H
                    exact absurd H (by simp)
                  ·rw [if_neg c37] at H
                   exact absurd H (by simp)
                 ·rw [if_neg c35] at H
                  have c35b0 : decide ((rd l0 x8_1) ≤ (rd l0 (ji32))) = false := decide_eq_false c35
                  clear c35
                  have H' := Aside0.mk H
                  clear H
                  try go_wp2
                  have n0_ := Aside0.mk (Kd.V_drew HO_0.out)
                  have n1_ := Aside0.mk (below_drew1 HB.out)
                  clear HO_0
                  clear HB
                  have HO_0 := n0_
                  have HB := n1_
                  clear n0_ n1_
                  have p133 : 0 ≤ (x8_1 : Int) := ofd
                  have q133 : x8_1 < (l0.length : Int) := ofd
                  obtain ⟨ad133, e133, hx133_0⟩ := Kd.at_int (Kd.V_reads' HO_0.out).2.2 x8_1 p133 q133
                  obtain rfl : ad119 = ad133 := (by injection e133)
                  replace p133 := eq_true p133
                  replace q133 := eq_true q133
                  have p134 : 0 ≤ ((ji32) : Int) := ofd
                  have q134 : (ji32) < (l0.length : Int) := ofd
                  obtain ⟨ad134, e134, hx134_0⟩ := Kd.at_int (Kd.V_reads' HO_0.out).2.2 (ji32) p134 q134
                  obtain rfl : ad119 = ad134 := (by injection e134)
                  replace p134 := eq_true p134
                  replace q134 := eq_true q134
                  refine start_ (n := 32) (S := fun w' => w'.cell? (ad119.add (x8_1).toNat) = some (.int .i64 (rd l0 x8_1)) ∧ w'.cell? (ad119.add ((ji32)).toNat) = some (.int .i64 (rd l0 (ji32)))) (ds := []) #[false, false, false, false, false, false, false, false, false, false, false, false, false, false, false, false, false, false, false, false, false, false, false, false, false, false, false, false, false, false, false, false] (by kernel_rfl) rfl rfl ⟨hx133_0, hx134_0⟩ (fun hHeld => ?_); refine with_tabW fold_step.tab11 fold_step.bits11 (fun HT_ HW_ => ?_)
                  generalize wr.drew = w69 at HO_0 HB hx133_0 hx134_0 hHeld ⊢
                  refine pr 0 51 HT_ ?_
                  refine pr 1 52 HT_ ?_
                  refine pr 2 53 HT_ ?_
                  refine pr 4 55 HT_ ?_
                  refine pr 5 56 HT_ ?_
                  refine pr 6 57 HT_ ?_
                  refine pr 7 58 HT_ ?_
                  refine tr 3 54 HT_ HW_ hHeld ?_
                  refine tr 8 59 HT_ HW_ hHeld ?_
                  refine pr 9 60 HT_ ?_
                  refine pr 10 61 HT_ ?_
                  refine pure_ (i := 11) (N := some 62) (v := undef) (a' := ?_) #[true, true, true, true, true, true, true, true, true, true, true, true, false, false, false, false, false, false, false, false, false, false, false, false, false, false, false, false, false, false, false, false] rfl rfl (any_of HT_.out (by kernel_rfl)) (fun _ _ _ h => h) (Or.inr ⟨by rfl, rfl⟩) ?_ ?_
                  rotate_left
                  ·simp only [Act.put, List.setIfInBounds_toArray, List.set_cons_zero, List.set_cons_succ, i64_w, i32_w]
                   rfl
                  refine pure_ (i := 12) (N := some 63) (v := undef) (a' := ?_) #[true, true, true, true, true, true, true, true, true, true, true, true, true, false, false, false, false, false, false, false, false, false, false, false, false, false, false, false, false, false, false, false] rfl rfl (any_of HT_.out (by kernel_rfl)) (fun _ _ _ h => h) (Or.inr ⟨by rfl, rfl⟩) ?_ ?_
                  rotate_left
                  ·simp only [Act.put, List.setIfInBounds_toArray, List.set_cons_zero, List.set_cons_succ, i64_w, i32_w]
                   rfl
                  refine pure_ (i := 13) (N := some 64) (v := undef) (a' := ?_) #[true, true, true, true, true, true, true, true, true, true, true, true, true, true, false, false, false, false, false, false, false, false, false, false, false, false, false, false, false, false, false, false] rfl rfl (any_of HT_.out (by kernel_rfl)) (fun _ _ _ h => h) (Or.inr ⟨by rfl, rfl⟩) ?_ ?_
                  rotate_left
                  ·simp only [Act.put, List.setIfInBounds_toArray, List.set_cons_zero, List.set_cons_succ, i64_w, i32_w]
                   rfl
                  refine pure_ (i := 14) (N := some 65) (v := undef) (a' := ?_) #[true, true, true, true, true, true, true, true, true, true, true, true, true, true, true, false, false, false, false, false, false, false, false, false, false, false, false, false, false, false, false, false] rfl rfl (any_of HT_.out (by kernel_rfl)) (fun _ _ _ h => h) (Or.inr ⟨by rfl, rfl⟩) ?_ ?_
                  rotate_left
                  ·simp only [Act.put, List.setIfInBounds_toArray, List.set_cons_zero, List.set_cons_succ, i64_w, i32_w]
                   rfl
                  refine pure_ (i := 15) (N := some 66) (v := undef) (a' := ?_) #[true, true, true, true, true, true, true, true, true, true, true, true, true, true, true, true, false, false, false, false, false, false, false, false, false, false, false, false, false, false, false, false] rfl rfl (any_of HT_.out (by kernel_rfl)) (fun _ _ _ h => h) (Or.inr ⟨by rfl, rfl⟩) ?_ ?_
                  rotate_left
                  ·simp only [Act.put, List.setIfInBounds_toArray, List.set_cons_zero, List.set_cons_succ, i64_w, i32_w]
                   rfl
                  refine pure_ (i := 16) (N := some 67) (v := undef) (a' := ?_) #[true, true, true, true, true, true, true, true, true, true, true, true, true, true, true, true, true, false, false, false, false, false, false, false, false, false, false, false, false, false, false, false] rfl rfl (any_of HT_.out (by kernel_rfl)) (fun _ _ _ h => h) (Or.inr ⟨by rfl, rfl⟩) ?_ ?_
                  rotate_left
                  ·simp only [Act.put, List.setIfInBounds_toArray, List.set_cons_zero, List.set_cons_succ, i64_w, i32_w]
                   rfl
                  refine pure_ (i := 17) (N := some 68) (v := undef) (a' := ?_) #[true, true, true, true, true, true, true, true, true, true, true, true, true, true, true, true, true, true, false, false, false, false, false, false, false, false, false, false, false, false, false, false] rfl rfl (any_of HT_.out (by kernel_rfl)) (fun _ _ _ h => h) (Or.inr ⟨by rfl, rfl⟩) ?_ ?_
                  rotate_left
                  ·simp only [Act.put, List.setIfInBounds_toArray, List.set_cons_zero, List.set_cons_succ, i64_w, i32_w]
                   rfl
                  refine pure_ (i := 18) (N := some 69) (v := undef) (a' := ?_) #[true, true, true, true, true, true, true, true, true, true, true, true, true, true, true, true, true, true, true, false, false, false, false, false, false, false, false, false, false, false, false, false] rfl rfl (any_of HT_.out (by kernel_rfl)) (fun _ _ _ h => h) (Or.inr ⟨by rfl, rfl⟩) ?_ ?_
                  rotate_left
                  ·simp only [Act.put, List.setIfInBounds_toArray, List.set_cons_zero, List.set_cons_succ, i64_w, i32_w]
                   rfl
                  refine pure_ (i := 19) (N := some 70) (v := undef) (a' := ?_) #[true, true, true, true, true, true, true, true, true, true, true, true, true, true, true, true, true, true, true, true, false, false, false, false, false, false, false, false, false, false, false, false] rfl rfl (any_of HT_.out (by kernel_rfl)) (fun _ _ _ h => h) (Or.inr ⟨by rfl, rfl⟩) ?_ ?_
                  rotate_left
                  ·simp only [Act.put, List.setIfInBounds_toArray, List.set_cons_zero, List.set_cons_succ, i64_w, i32_w]
                   rfl
                  refine pure_ (i := 20) (N := some 71) (v := undef) (a' := ?_) #[true, true, true, true, true, true, true, true, true, true, true, true, true, true, true, true, true, true, true, true, true, false, false, false, false, false, false, false, false, false, false, false] rfl rfl (any_of HT_.out (by kernel_rfl)) (fun _ _ _ h => h) (Or.inr ⟨by rfl, rfl⟩) ?_ ?_
                  rotate_left
                  ·simp only [Act.put, List.setIfInBounds_toArray, List.set_cons_zero, List.set_cons_succ, i64_w, i32_w]
                   rfl
                  refine pr 21 72 HT_ ?_
                  refine pr 22 73 HT_ ?_
                  refine pure_ (i := 23) (N := some 74) (v := undef) (a' := ?_) #[true, true, true, true, true, true, true, true, true, true, true, true, true, true, true, true, true, true, true, true, true, true, true, true, false, false, false, false, false, false, false, false] rfl rfl (any_of HT_.out (by kernel_rfl)) (fun _ _ _ h => h) (Or.inr ⟨by rfl, rfl⟩) ?_ ?_
                  rotate_left
                  ·simp only [Act.put, List.setIfInBounds_toArray, List.set_cons_zero, List.set_cons_succ, i64_w, i32_w]
                   rfl
                  refine pure_ (i := 24) (N := some 75) (v := undef) (a' := ?_) #[true, true, true, true, true, true, true, true, true, true, true, true, true, true, true, true, true, true, true, true, true, true, true, true, true, false, false, false, false, false, false, false] rfl rfl (any_of HT_.out (by kernel_rfl)) (fun _ _ _ h => h) (Or.inr ⟨by rfl, rfl⟩) ?_ ?_
                  rotate_left
                  ·simp only [Act.put, List.setIfInBounds_toArray, List.set_cons_zero, List.set_cons_succ, i64_w, i32_w]
                   rfl
                  refine pure_ (i := 25) (N := some 76) (v := undef) (a' := ?_) #[true, true, true, true, true, true, true, true, true, true, true, true, true, true, true, true, true, true, true, true, true, true, true, true, true, true, false, false, false, false, false, false] rfl rfl (any_of HT_.out (by kernel_rfl)) (fun _ _ _ h => h) (Or.inr ⟨by rfl, rfl⟩) ?_ ?_
                  rotate_left
                  ·simp only [Act.put, List.setIfInBounds_toArray, List.set_cons_zero, List.set_cons_succ, i64_w, i32_w]
                   rfl
                  refine pure_ (i := 26) (N := some 77) (v := undef) (a' := ?_) #[true, true, true, true, true, true, true, true, true, true, true, true, true, true, true, true, true, true, true, true, true, true, true, true, true, true, true, false, false, false, false, false] rfl rfl (any_of HT_.out (by kernel_rfl)) (fun _ _ _ h => h) (Or.inr ⟨by rfl, rfl⟩) ?_ ?_
                  rotate_left
                  ·simp only [Act.put, List.setIfInBounds_toArray, List.set_cons_zero, List.set_cons_succ, i64_w, i32_w]
                   rfl
                  refine pure_ (i := 27) (N := some 78) (v := undef) (a' := ?_) #[true, true, true, true, true, true, true, true, true, true, true, true, true, true, true, true, true, true, true, true, true, true, true, true, true, true, true, true, false, false, false, false] rfl rfl (any_of HT_.out (by kernel_rfl)) (fun _ _ _ h => h) (Or.inr ⟨by rfl, rfl⟩) ?_ ?_
                  rotate_left
                  ·simp only [Act.put, List.setIfInBounds_toArray, List.set_cons_zero, List.set_cons_succ, i64_w, i32_w]
                   rfl
                  refine pure_ (i := 28) (N := some 79) (v := undef) (a' := ?_) #[true, true, true, true, true, true, true, true, true, true, true, true, true, true, true, true, true, true, true, true, true, true, true, true, true, true, true, true, true, false, false, false] rfl rfl (any_of HT_.out (by kernel_rfl)) (fun _ _ _ h => h) (Or.inr ⟨by rfl, rfl⟩) ?_ ?_
                  rotate_left
                  ·simp only [Act.put, List.setIfInBounds_toArray, List.set_cons_zero, List.set_cons_succ, i64_w, i32_w]
                   rfl
                  refine pure_ (i := 29) (N := some 80) (v := undef) (a' := ?_) #[true, true, true, true, true, true, true, true, true, true, true, true, true, true, true, true, true, true, true, true, true, true, true, true, true, true, true, true, true, true, false, false] rfl rfl (any_of HT_.out (by kernel_rfl)) (fun _ _ _ h => h) (Or.inr ⟨by rfl, rfl⟩) ?_ ?_
                  rotate_left
                  ·simp only [Act.put, List.setIfInBounds_toArray, List.set_cons_zero, List.set_cons_succ, i64_w, i32_w]
                   rfl
                  refine pure_ (i := 30) (N := some 81) (v := undef) (a' := ?_) #[true, true, true, true, true, true, true, true, true, true, true, true, true, true, true, true, true, true, true, true, true, true, true, true, true, true, true, true, true, true, true, false] rfl rfl (any_of HT_.out (by kernel_rfl)) (fun _ _ _ h => h) (Or.inr ⟨by rfl, rfl⟩) ?_ ?_
                  rotate_left
                  ·simp only [Act.put, List.setIfInBounds_toArray, List.set_cons_zero, List.set_cons_succ, i64_w, i32_w]
                   rfl
                  refine pr 31 82 HT_ ?_
                  refine dn HT_ ?_
                  try go_wp2
                  go_roundg k1
                  case measure => have := HK1.out; omega
                  case rel => exact ⟨(wrap64 (x8_1 + 1)), (by first | rfl | (simp; done) | (simp [*]; done)), H', ⟨by have := HK1.out; omega⟩, ⟨vl HO_0⟩, ⟨bl HB⟩⟩
                ·rw [if_neg c34] at H
                 exact absurd H (by simp)
               ·rw [if_neg c33] at H
                exact absurd H (by simp)
              ·rw [if_neg c31] at H
               exact absurd H (by simp)
             ·rw [if_neg c30] at H
              exact absurd H (by simp)
            ·rw [if_neg c29] at H
             have c29b0 : decide (x8_1 < (wrap64 ((l0.length : Int) - 1))) = false := decide_eq_false c29
             (try rw [hji12] at c29b0)
             clear c29
             simp only [Option.some.injEq, Prod.mk.injEq] at H
             obtain ⟨rfl, rfl, rfl⟩ := H
             go_wp2
             go_ret3
             exact ⟨_, by first | rfl | (simp [errW_none, errW_some] <;> rfl) | (simp only [← hji12, ← hji15]; first | rfl | (simp [errW_none, errW_some] <;> rfl)) | (simp [*, errW_none, errW_some] <;> rfl), by (with_reducible repeat (first | apply Kd.V_alloc | apply Kd.V_drewN | apply Kd.V_drew)); exact HO_0.out, by repeat (first | (with_reducible first | exact HB.out | apply below_alloc | apply pw_below_drewN | apply below_drew1) | exact HB.out)⟩
        ·rw [if_neg c17] at H
         exact absurd H (by simp)
       ·rw [if_neg c16] at H
        exact absurd H (by simp)
      ·rw [if_neg c14] at H
       exact absurd H (by simp)
     ·rw [if_neg c13] at H
      exact absurd H (by simp)
   ·rw [if_neg c5] at H
    exact absurd H (by simp)
  ·rw [if_neg c4] at H
   exact absurd H (by simp)
end Go.Proofs.Ytiknnpfdpecfdaa.Gx

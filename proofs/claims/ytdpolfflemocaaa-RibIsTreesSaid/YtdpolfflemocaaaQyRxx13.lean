/- The declarations of Rxx13 that the claim Qy needs. -/
import Derived.Test.YtdpolfflemocaaaQyTkP
import Derived.Test.YtdpolfflemocaaaQyRxx0
import Derived.Test.YtdpolfflemocaaaQyRxx3
import Derived.Test.YtdpolfflemocaaaQyRxx8
import Derived.Test.YtdpolfflemocaaaQyRxx12
namespace Go.Proofs.Ytdpolfflemocaaa.Rx
open Go.RowKit Go.Proofs.Ytdpolfflemocaaa.Own Go.Proofs.YtdpolfflemocaaaW.PrintWords Go.Proofs.YtdpolfflemocaaaW.PrintLast Go.Proofs.YtdpolfflemocaaaW.PrintMore
attribute [local go_sem] max2_int min2_int max_two min_two max_three min_three max_four min_four
set_option linter.unusedVariables false
set_option linter.unusedSimpArgs false
mutual
def gampref04_Tree.l0 : Nat → Int → List (S52) → List (List Int) → List Int → Int → Option (Bool)
  | 0, _, _, _, _, _ => none
  | k + 1, x0, x2, x7, x8, x9 => if x9 < (x7.length : Int) then (if x8.length < 17592186044416 then (gampref04_Tree.l0 k x0 x2 x7 (x8 ++ [x9]) (wrap64 (x9 + 1))) else (none)) else (gampref04_Tree.l1 k x0 x2 x7 x8 0)
def gampref04_Tree.l1 : Nat → Int → List (S52) → List (List Int) → List Int → Int → Option (Bool)
  | 0, _, _, _, _, _ => none
  | k + 1, x0, x2, x7, x8, x10 => if x10 < (x2.length : Int) then (if 0 ≤ x10 then ((gampref04_in.f ((rd_T52 x2 x10).f0) 0 (wrap64 ((x7.length : Int) - 1))).bind fun t305 => (if t305 = true then ((gampref04_in.f ((rd_T52 x2 x10).f1) (wrap64 (((rd_T52 x2 x10).f0) + 1)) (wrap64 ((x7.length : Int) - 1))).bind fun t308 => (if t308 = true then (if 0 ≤ ((rd_T52 x2 x10).f0) then (if ((rd_T52 x2 x10).f0) < (x8.length : Int) then (if 0 ≤ ((rd_T52 x2 x10).f1) then (if ((rd_T52 x2 x10).f1) < (x8.length : Int) then (gampref04_Tree.j2 k x0 x2 x7 x8 x10 ((rd x8 ((rd_T52 x2 x10).f0)) == (rd x8 ((rd_T52 x2 x10).f1)))) else (none)) else (none)) else (none)) else (none)) else (gampref04_Tree.j2 k x0 x2 x7 x8 x10 true))) else (gampref04_Tree.j2 k x0 x2 x7 x8 x10 true))) else (none)) else (gampref04_Tree.l3 k x0 x2 x7 0)
def gampref04_Tree.j2 : Nat → Int → List (S52) → List (List Int) → List Int → Int → Bool → Option (Bool)
  | 0, _, _, _, _, _, _ => none
  | k + 1, x0, x2, x7, x8, x10, x91 => if x91 = true then (some false) else (if 0 ≤ x10 then (if x10 < (x2.length : Int) then (if 0 ≤ ((rd_T52 x2 x10).f0) then (if ((rd_T52 x2 x10).f0) < (x8.length : Int) then (if 0 ≤ ((rd_T52 x2 x10).f1) then (if ((rd_T52 x2 x10).f1) < (x8.length : Int) then (gampref04_Tree.l2 k x0 x2 x7 x8 x10 (rd x8 ((rd_T52 x2 x10).f0)) (rd x8 ((rd_T52 x2 x10).f1)) 0) else (none)) else (none)) else (none)) else (none)) else (none)) else (none))
def gampref04_Tree.l2 : Nat → Int → List (S52) → List (List Int) → List Int → Int → Int → Int → Int → Option (Bool)
  | 0, _, _, _, _, _, _, _, _ => none
  | k + 1, x0, x2, x7, x8, x10, x11, x12, x13 => if x13 < (x7.length : Int) then (if 0 ≤ x13 then (if x13 < (x8.length : Int) then (if (rd x8 x13) = x11 then (gampref04_Tree.l2 k x0 x2 x7 (x8.set (x13 : Int).toNat x12) x10 x11 x12 (wrap64 (x13 + 1))) else (gampref04_Tree.l2 k x0 x2 x7 x8 x10 x11 x12 (wrap64 (x13 + 1)))) else (none)) else (none)) else (gampref04_Tree.l1 k x0 x2 x7 x8 (wrap64 (x10 + 1)))
def gampref04_Tree.l3 : Nat → Int → List (S52) → List (List Int) → Int → Option (Bool)
  | 0, _, _, _, _ => none
  | k + 1, x0, x2, x7, x14 => if x14 < x0 then (gampref04_Tree.l4 k x0 x2 x7 x14 0 0 0) else (some true)
def gampref04_Tree.l4 : Nat → Int → List (S52) → List (List Int) → Int → Int → Int → Int → Option (Bool)
  | 0, _, _, _, _, _, _, _ => none
  | k + 1, x0, x2, x7, x14, x15, x16, x17 => if x17 < (x7.length : Int) then (if 0 ≤ x17 then ((gampref04_Has.f k (rd_L2 x7 x17) x14).bind fun t320 => (if t320 = true then (gampref04_Tree.l4 k x0 x2 x7 x14 (wrap64 (x15 + 1)) x16 (wrap64 (x17 + 1))) else (gampref04_Tree.l4 k x0 x2 x7 x14 x15 x16 (wrap64 (x17 + 1))))) else (none)) else (gampref04_Tree.l5 k x0 x2 x7 x14 x15 x16 0)
def gampref04_Tree.l5 : Nat → Int → List (S52) → List (List Int) → Int → Int → Int → Int → Option (Bool)
  | 0, _, _, _, _, _, _, _ => none
  | k + 1, x0, x2, x7, x14, x15, x16, x18 => if x18 < (x2.length : Int) then (if 0 ≤ x18 then (if 0 ≤ ((rd_T52 x2 x18).f0) then (if ((rd_T52 x2 x18).f0) < (x7.length : Int) then ((gampref04_Has.f k (rd_L2 x7 ((rd_T52 x2 x18).f0)) x14).bind fun t323 => (if t323 = true then (if 0 ≤ ((rd_T52 x2 x18).f1) then (if ((rd_T52 x2 x18).f1) < (x7.length : Int) then ((gampref04_Has.f k (rd_L2 x7 ((rd_T52 x2 x18).f1)) x14).bind fun t326 => (if t326 = true then (gampref04_Tree.l5 k x0 x2 x7 x14 x15 (wrap64 (x16 + 1)) (wrap64 (x18 + 1))) else (gampref04_Tree.l5 k x0 x2 x7 x14 x15 x16 (wrap64 (x18 + 1))))) else (none)) else (none)) else (gampref04_Tree.l5 k x0 x2 x7 x14 x15 x16 (wrap64 (x18 + 1))))) else (none)) else (none)) else (none)) else (if x16 = (wrap64 (x15 - 1)) then (gampref04_Tree.l3 k x0 x2 x7 (wrap64 (x14 + 1))) else (some false))
end
def gampref04_Tree.f (k : Nat) (a0 : Int) (l1 : List (S52)) (l2 : List (S52)) : Option (Bool) := (gampref04_Cliques.f k a0 l1).bind fun t295 => (if (l2.length : Int) = (wrap64 ((t295.length : Int) - 1)) then (gampref04_Tree.l0 k a0 l2 t295 (([] : List Int)) 0) else (some false))
def gampref04_Tree.T12 : Bool × List (List Nat × List Nat) := (true, [([], []), ([], []), ([0, 1], [0, 1]), ([2], [2]), ([3], [3]), ([], []), ([5], [5]), ([6], [6]), ([4, 7], [4, 7]), ([8], [8]), ([9, 8], [9]), ([10], [10]), ([10], [10]), ([11, 12, 10], [10, 11, 12]), ([13, 10], [10, 13]), ([14, 10], [10, 14]), ([10], [10]), ([10], [10]), ([16, 17, 10], [10, 16, 17]), ([18, 10], [10, 18]), ([19, 10], [10, 19]), ([20, 10], [10, 20]), ([10], [10]), ([22, 10], [10, 22]), ([23, 10], [10, 23]), ([15, 21, 24, 10, 10], [10, 15, 21, 24]), ([25, 10], [10, 25]), ([10, 26], [10, 26]), ([27, 25], [27]), ([28], [28]), ([28], [28]), ([28], [28]), ([30, 31, 28], [28, 30, 31]), ([32, 28], [28, 32]), ([33, 28], [28, 33]), ([29, 34, 28], [28, 29, 34]), ([35, 28], [28, 35]), ([28], [28]), ([28], [28]), ([28], [28]), ([38, 39, 28], [28, 38, 39]), ([40, 28], [28, 40]), ([41, 28], [28, 41]), ([37, 42, 28], [28, 37, 42]), ([43, 28], [28, 43]), ([36, 44, 28], [28, 36, 44]), ([28, 45], [28, 45])])
def gampref04_Tree.B12 : List Nat := [0, 0, 3, 7, 15, 0, 32, 96, 255, 511, 1023, 2047, 2047, 8191, 16383, 32767, 2047, 2047, 198655, 460799, 985087, 2033663, 2047, 4196351, 12584959, 33554431, 67108863, 134217727, 268435455, 536870911, 536870911, 536870911, 3758096383, 8053063679, 16642998271, 34359738367, 68719476735, 536870911, 536870911, 536870911, 825170591743, 1924682219519, 4123705475071, 8659190939647, 17455283961855, 35184372088831, 70368744177663]
theorem gampref04_Tree.tab12 : rtab .any (opsOf Try.f22 12) = gampref04_Tree.T12 := by kernel_rfl
theorem gampref04_Tree.bits12 : waitsOk gampref04_Tree.T12.2 gampref04_Tree.B12 = true := by kernel_rfl
def gampref04_Tree.T14 : Bool × List (List Nat × List Nat) := (true, [([], []), ([], []), ([], []), ([1, 2], [1, 2]), ([3], [3]), ([4], [4]), ([0, 5], [0, 5]), ([6], [6]), ([], []), ([], []), ([], []), ([9, 10], [9, 10]), ([11], [11]), ([12], [12]), ([8, 13], [8, 13]), ([14], [14]), ([7, 0, 1, 2, 3, 4, 5, 6, 7], [7]), ([15, 16, 0, 1, 2, 3, 4, 5, 6, 7, 8, 9, 10, 11, 12, 13, 14, 15, 16], [15])])
def gampref04_Tree.B14 : List Nat := [0, 0, 0, 6, 14, 30, 63, 127, 0, 0, 0, 1536, 3584, 7680, 16128, 32512, 255, 131071]
theorem gampref04_Tree.tab14 : rtab .any (opsOf Try.f22 14) = gampref04_Tree.T14 := by kernel_rfl
theorem gampref04_Tree.bits14 : waitsOk gampref04_Tree.T14.2 gampref04_Tree.B14 = true := by kernel_rfl
set_option maxHeartbeats 8000000 in
set_option maxRecDepth 100000 in
theorem gampref04_Tree.calls (k : Nat) (a0 : Int) (A1 : Option Addr) (c1 : Nat) (l1 : List (S52)) (A2 : Option Addr) (c2 : Nat) (l2 : List (S52)) (r : Bool) (w : World) (hr1 : Kd.C k52 w A1 l1.length l1) (hc1 : l1.length ≤ c1) (hr2 : Kd.C k52 w A2 l2.length l2) (hc2 : l2.length ≤ c2) (h : gampref04_Tree.f k a0 l1 l2 = some r) :
  Calls Try.prog 22 #[.int .i64 a0, .slice A1 l1.length c1, .slice A2 l2.length c2] w fun e w' => e = .returned (.bool r) ∧ Below w.heap.size w w' := by
 have HR1 := Aside0.mk hr1
 have HC1 := Aside0.mk hc1
 clear hr1 hc1
 have HR2 := Aside0.mk hr2
 have HC2 := Aside0.mk hc2
 clear hr2 hc2
 have HB := Aside0.mk (Below.refl w.heap.size w)
 have H : ((gampref04_Cliques.f k a0 l1).bind fun t295 => (if (l2.length : Int) = (wrap64 ((t295.length : Int) - 1)) then (gampref04_Tree.l0 k a0 l2 t295 (([] : List Int)) 0) else (some false))) = some r := h
 clear h
 replace H := Option.bind_eq_some_iff.mp H
 obtain ⟨t295, A40, H⟩ := H
 replace H : (if (l2.length : Int) = (wrap64 ((t295.length : Int) - 1)) then (gampref04_Tree.l0 k a0 l2 t295 (([] : List Int)) 0) else (some false)) = some r := H
 have A4 := Aside0.mk A40
 clear A40
 by_cases c5 : (l2.length : Int) = (wrap64 ((t295.length : Int) - 1))
 ·rw [if_pos c5] at H
  have c5b0 : ((l2.length : Int) == (wrap64 ((t295.length : Int) - 1))) = true := beq_iff_eq.mpr c5
  have c5b1 : ((l2.length : Int) != (wrap64 ((t295.length : Int) - 1))) = false := bne_eq_false_iff_eq.mpr c5
  clear c5
  obtain ⟨y298, hy298⟩ : ∃ y_ : List Int, y_ = (([] : List Int)) := ⟨_, rfl⟩
  replace H : (gampref04_Tree.l0 k a0 l2 t295 y298 0) = some r := by first | (rw [hy298]; with_reducible exact H) | (have H2_ := (Option.bind_some _ _).symm.trans H; rw [hy298]; with_reducible exact H2_) | (have H2_ := (Option.bind_some _ _).symm.trans H; with_reducible exact H2_) | with_reducible exact H | (rw [hy298]; exact H) | exact H
  have Ny298 := Aside0.mk hy298
  clear hy298
  have H' := Aside0.mk H
  clear H
  go_enter Try.func22, Try.ntmps22
  go_wp2_with (first | ((with_reducible refine gate_callee (f := 19) rfl ?_); refine gL 21 Try.func19 #[.int .i64 a0, .slice A1 l1.length c1] ?_; (with_reducible refine (gampref04_Cliques.calls k a0 _ _ l1 t295 _ ?side1 ?side2 A4.out).mono ?_); (case side1 => exact cl (HR1.out)); (case side2 => exact HC1.out); rintro e w6 ⟨v296, rfl, ho0, hb⟩; refine ⟨_, rfl, ?_⟩; have n0_ := Aside0.mk (Kd.N_lower (Kd.N_mono (ok' := fun k_ => True) ho0 (fun k_ hk_ => trivial)) (below_size (bl HB))); have n1_ := Aside0.mk (below_step (bl HB) hb); clear HB; have HO297 := n0_; have HB := n1_; clear n0_ n1_; (try clear hb); (try clear hb2); (try clear hk); (try clear hi); (try clear ho0); obtain ⟨Ao7, co7, eo7⟩ := Kd.N_slice HO297.out; subst eo7) | ((with_reducible refine gate_dst (N := 28) rfl ?_); (try (refine gate_guard (by rfl) ?_; dsimp only)); refine Kd.R_lit (Kd.int .i64) _ 3 ?hg (N := 28) ?hd (xs := ([] : List Int)) (inner := []) (ok := fun _ => True) (okp := fun _ => True) ?hr ?hp (fun _ hk => hk) trivial (Below.refl _ _) (Nat.le_refl _) (by simp) ?_; (case hd => rfl); (case hg => rfl); (case hr => first | (go_simp; done) | (go_simp; rfl)); (case hp => exact (Reps.none _ _)); intro v299 w8 ho9 hb hg_ hnew_; clear hg_ hnew_; (first | rw [← Ny298.out] at ho9 | (simp only [Int.reduceToNat] at ho9; rw [← Ny298.out] at ho9)); have n0_ := Aside0.mk (Kd.N_elder' (nl HO297) (Kd.R_base ho9) hb); have n1_ := Aside0.mk (Kd.R_lower ho9 (below_size (bl HB))); have n2_ := Aside0.mk (below_step (bl HB) hb); clear HO297; clear HB; have HO297 := n0_; have HO300 := n1_; have HB := n2_; clear n0_ n1_ n2_; clear hb ho9))
  go_loopg [8, 9] k (fun kq v8 v9 w' => ∃ (x8_1 : List Int) (x9_1 : Int), v9 = .int .i64 x9_1 ∧ Aside0 (gampref04_Tree.l0 kq a0 l2 t295 x8_1 x9_1 = some r) ∧ Aside0 (kq ≤ k) ∧ Aside0 (Kd.N (Kd.slice 3 (Kd.int .i64)) 34 w' w.heap.size (fun k_ => some k_ ≠ (v8 : Value).ownBlock) (.slice Ao7 t295.length co7) t295) ∧ Aside0 (Kd.R (Kd.int .i64) 3 w' w.heap.size (fun _ => True) v8 x8_1) ∧ Aside0 (Below w.heap.size w w'))
  case atStart => exact ⟨(y298), (0), (by first | rfl | (simp; done) | (simp [*]; done)), H', ⟨Nat.le_refl _⟩, ⟨by (with_reducible repeat (first | apply Kd.N_alloc | apply Kd.N_drewN | apply Kd.N_drew)); exact Kd.N_mono HO297.out (fun _ hk => hk.2)⟩, ⟨rl HO300⟩, ⟨bl HB⟩⟩
  case round =>
   clear H'
   try clear c1
   try clear c2
   try clear p2
   try clear c5
   try clear c5b0
   try clear c5b1
   try clear p6
   obtain ⟨x8_1, x9_1, rfl, HA, HK1, HO_7, HO_8, HB⟩ := hrel
   cases gk with
   | zero => exact absurd HA.out (by simp [gampref04_Tree.l0])
   | succ k1 =>
    have H := HA.out
    clear HA
    simp only [gampref04_Tree.l0] at H
    by_cases c10 : x9_1 < (t295.length : Int)
    ·rw [if_pos c10] at H
     have c10b0 : decide (x9_1 < (t295.length : Int)) = true := decide_eq_true c10
     clear c10
     by_cases c11 : x8_1.length < 17592186044416
     ·rw [if_pos c11] at H
      have LMc11 := Aside0.mk c11
      clear c11
      obtain ⟨y301, hy301⟩ : ∃ y_ : List Int, y_ = (x8_1 ++ [x9_1]) := ⟨_, rfl⟩
      replace H : (gampref04_Tree.l0 k1 a0 l2 t295 y301 (wrap64 (x9_1 + 1))) = some r := by first | (rw [hy301]; with_reducible exact H) | (have H2_ := (Option.bind_some _ _).symm.trans H; rw [hy301]; with_reducible exact H2_) | (have H2_ := (Option.bind_some _ _).symm.trans H; with_reducible exact H2_) | with_reducible exact H | (rw [hy301]; exact H) | exact H
      have Ny301 := Aside0.mk hy301
      clear hy301
      have H' := Aside0.mk H
      clear H
      go_wp2_with (first | ((with_reducible refine gate_builtin (b := .append) (xs := #[.tmp 35, .tmp 37]) rfl ?_); (try (refine gate_guard (by rfl) ?_; dsimp only)); at_builtin; refine Kd.R_append (Kd.int .i64) (w0 := w) w.heap.size rfl (.tmp 35) (.tmp 37) 34 3 (.int .i64 0) 8 rfl Try.underlying34 info3 rfl (by decide) (by omega) u8 x8_1 x9_1 [.int .i64 x9_1] (fun _ => True) (fun _ => False) rfl rfl ?aP (fun _ hk => hk.elim) ?aF ?aO ?aB ?aS ?aL ?_; (case aP => exact rfl); (case aB => exact (bl HB)); (case aF => exact (fun _ _ => trivial)); (case aO => exact (rl HO_8)); (case aS => exact (below_size (bl HB))); (case aL => have := LMc11.out; omega); intro v302 w12 ho hb hg hat; rw [← Ny301.out] at ho; have n0_ := Aside0.mk (Kd.N_afterv (ok := (fun _ => True)) (by (with_reducible repeat (first | apply Kd.N_alloc | apply Kd.N_drewN | apply Kd.N_drew)); exact Kd.N_mono HO_7.out (fun _ hk => ⟨trivial, hk⟩)) hg hat); have n1_ := Aside0.mk (hb); have n2_ := Aside0.mk (ho); clear HO_7; clear HB; clear HO_8; have HO_7 := n0_; have HB := n1_; have HO303 := n2_; clear n0_ n1_ n2_; clear ho hb hg hat))
      go_roundg k1
      case measure => have := HK1.out; omega
      case rel => exact ⟨(y301), (wrap64 (x9_1 + 1)), (by first | rfl | (simp; done) | (simp [*]; done)), H', ⟨by have := HK1.out; omega⟩, ⟨by (with_reducible repeat (first | apply Kd.N_alloc | apply Kd.N_drewN | apply Kd.N_drew)); exact Kd.N_mono HO_7.out (fun _ hk => hk.2)⟩, ⟨rl HO303⟩, ⟨bl HB⟩⟩
     ·rw [if_neg c11] at H
      exact absurd H (by simp)
    ·rw [if_neg c10] at H
     have c10b0 : decide (x9_1 < (t295.length : Int)) = false := decide_eq_false c10
     clear c10
     have H' := Aside0.mk H
     clear H
     go_wp2
     go_loopg [10] k1 (fun kq v10 w' => ∃ (x8_2 : List Int) (x10_2 : Int), v10 = .int .i64 x10_2 ∧ Aside0 (gampref04_Tree.l1 kq a0 l2 t295 x8_2 x10_2 = some r) ∧ Aside0 (kq ≤ k1) ∧ Aside0 (Kd.N (Kd.slice 3 (Kd.int .i64)) 34 w' w.heap.size (fun k_ => some k_ ≠ (u8 : Value).ownBlock) (.slice Ao7 t295.length co7) t295) ∧ Aside0 (Kd.R (Kd.int .i64) 3 w' w.heap.size (fun _ => True) u8 x8_2) ∧ Aside0 (Below w.heap.size w w'))
     case atStart => exact ⟨(x8_1), (0), (by first | rfl | (simp; done) | (simp [*]; done)), H', ⟨Nat.le_refl _⟩, ⟨nl HO_7⟩, ⟨rl HO_8⟩, ⟨bl HB⟩⟩
     case round =>
      clear H'
      try clear c1
      try clear c2
      try clear p2
      try clear c5
      try clear c5b0
      try clear c5b1
      try clear p6
      try clear c10
      try clear c10b0
      try clear c11
      try clear p2
      try clear p6
      obtain ⟨x8_2, x10_2, rfl, HA, HK2, HO_7, HO_8, HB⟩ := hrel
      cases gk with
      | zero => exact absurd HA.out (by simp [gampref04_Tree.l1])
      | succ k2 =>
       have H := HA.out
       clear HA
       simp only [gampref04_Tree.l1] at H
       by_cases c13 : x10_2 < (l2.length : Int)
       ·rw [if_pos c13] at H
        have c13b0 : decide (x10_2 < (l2.length : Int)) = true := decide_eq_true c13
        clear c13
        have HC14 := Aside0.mk H
        clear H
        go_upto_region 12 with (fail)
        go_cut [91] (fun v91 wc => ∃ (kq : Nat) (x91_13 : Bool), v91 = .bool x91_13 ∧ Aside0 (gampref04_Tree.j2 kq a0 l2 t295 x8_2 x10_2 x91_13 = some r) ∧ Aside0 (kq ≤ k2) ∧ Aside0 (Kd.N (Kd.slice 3 (Kd.int .i64)) 34 wc w.heap.size (fun k_ => some k_ ≠ (u8 : Value).ownBlock) (.slice Ao7 t295.length co7) t295) ∧ Aside0 (Kd.R (Kd.int .i64) 3 wc w.heap.size (fun _ => True) u8 x8_2) ∧ Aside0 (Below w.heap.size w wc))
        case first =>
         have H := HC14.out
         clear HC14
         by_cases c15 : 0 ≤ x10_2
         ·rw [if_pos c15] at H
          have c15b0 : decide (0 ≤ x10_2) = true := decide_eq_true c15
          clear c15
          (first | rw [c15b0] | (simp only [i64_w, i32_w]; rw [c15b0]) | skip)
          replace H := Option.bind_eq_some_iff.mp H
          obtain ⟨t305, A160, H⟩ := H
          replace H : (if t305 = true then ((gampref04_in.f ((rd_T52 l2 x10_2).f1) (wrap64 (((rd_T52 l2 x10_2).f0) + 1)) (wrap64 ((t295.length : Int) - 1))).bind fun t308 => (if t308 = true then (if 0 ≤ ((rd_T52 l2 x10_2).f0) then (if ((rd_T52 l2 x10_2).f0) < (x8_2.length : Int) then (if 0 ≤ ((rd_T52 l2 x10_2).f1) then (if ((rd_T52 l2 x10_2).f1) < (x8_2.length : Int) then (gampref04_Tree.j2 k2 a0 l2 t295 x8_2 x10_2 ((rd x8_2 ((rd_T52 l2 x10_2).f0)) == (rd x8_2 ((rd_T52 l2 x10_2).f1)))) else (none)) else (none)) else (none)) else (none)) else (gampref04_Tree.j2 k2 a0 l2 t295 x8_2 x10_2 true))) else (gampref04_Tree.j2 k2 a0 l2 t295 x8_2 x10_2 true)) = some r := H
          have A16 := Aside0.mk A160
          clear A160
          by_cases c17 : t305 = true
          ·subst c17
           have H1 : ((gampref04_in.f ((rd_T52 l2 x10_2).f1) (wrap64 (((rd_T52 l2 x10_2).f0) + 1)) (wrap64 ((t295.length : Int) - 1))).bind fun t308 => (if t308 = true then (if 0 ≤ ((rd_T52 l2 x10_2).f0) then (if ((rd_T52 l2 x10_2).f0) < (x8_2.length : Int) then (if 0 ≤ ((rd_T52 l2 x10_2).f1) then (if ((rd_T52 l2 x10_2).f1) < (x8_2.length : Int) then (gampref04_Tree.j2 k2 a0 l2 t295 x8_2 x10_2 ((rd x8_2 ((rd_T52 l2 x10_2).f0)) == (rd x8_2 ((rd_T52 l2 x10_2).f1)))) else (none)) else (none)) else (none)) else (none)) else (gampref04_Tree.j2 k2 a0 l2 t295 x8_2 x10_2 true))) = some r := by rw [if_pos rfl] at H; exact H
           clear H
           have H := H1
           clear H1
           replace H := Option.bind_eq_some_iff.mp H
           obtain ⟨t308, A180, H⟩ := H
           replace H : (if t308 = true then (if 0 ≤ ((rd_T52 l2 x10_2).f0) then (if ((rd_T52 l2 x10_2).f0) < (x8_2.length : Int) then (if 0 ≤ ((rd_T52 l2 x10_2).f1) then (if ((rd_T52 l2 x10_2).f1) < (x8_2.length : Int) then (gampref04_Tree.j2 k2 a0 l2 t295 x8_2 x10_2 ((rd x8_2 ((rd_T52 l2 x10_2).f0)) == (rd x8_2 ((rd_T52 l2 x10_2).f1)))) else (none)) else (none)) else (none)) else (none)) else (gampref04_Tree.j2 k2 a0 l2 t295 x8_2 x10_2 true)) = some r := H
           have A18 := Aside0.mk A180
           clear A180
           by_cases c19 : t308 = true
           ·subst c19
            have H1 : (if 0 ≤ ((rd_T52 l2 x10_2).f0) then (if ((rd_T52 l2 x10_2).f0) < (x8_2.length : Int) then (if 0 ≤ ((rd_T52 l2 x10_2).f1) then (if ((rd_T52 l2 x10_2).f1) < (x8_2.length : Int) then (gampref04_Tree.j2 k2 a0 l2 t295 x8_2 x10_2 ((rd x8_2 ((rd_T52 l2 x10_2).f0)) == (rd x8_2 ((rd_T52 l2 x10_2).f1)))) else (none)) else (none)) else (none)) else (none)) = some r := by rw [if_pos rfl] at H; exact H
            clear H
            have H := H1
            clear H1
            by_cases c20 : 0 ≤ ((rd_T52 l2 x10_2).f0)
            ·rw [if_pos c20] at H
             have c20b0 : decide (0 ≤ ((rd_T52 l2 x10_2).f0)) = true := decide_eq_true c20
             clear c20
             by_cases c21 : ((rd_T52 l2 x10_2).f0) < (x8_2.length : Int)
             ·rw [if_pos c21] at H
              have c21b0 : decide (((rd_T52 l2 x10_2).f0) < (x8_2.length : Int)) = true := decide_eq_true c21
              clear c21
              by_cases c22 : 0 ≤ ((rd_T52 l2 x10_2).f1)
              ·rw [if_pos c22] at H
               have c22b0 : decide (0 ≤ ((rd_T52 l2 x10_2).f1)) = true := decide_eq_true c22
               clear c22
               by_cases c23 : ((rd_T52 l2 x10_2).f1) < (x8_2.length : Int)
               ·rw [if_pos c23] at H
                have c23b0 : decide (((rd_T52 l2 x10_2).f1) < (x8_2.length : Int)) = true := decide_eq_true c23
                clear c23
                have H' := Aside0.mk H
                clear H
                try go_wp2
                have n0_ := Aside0.mk (Kd.N_drew HO_7.out)
                have n1_ := Aside0.mk (Kd.R_drew HO_8.out)
                have n2_ := Aside0.mk (below_drew1 HB.out)
                clear HO_7 HO_8 HB
                have HO_7 := n0_; have HO_8 := n1_; have HB := n2_
                clear n0_ n1_ n2_
                have p304 : 0 ≤ (x10_2 : Int) := ofd
                have q304 : x10_2 < (l2.length : Int) := ofd
                obtain ⟨ad304, e304, hx304_0, hx304_1⟩ := at_T52 HR2.out x10_2 p304 q304
                have hw304_1 := hx304_1; have hw304_0 := hx304_0
                cases e304
                replace hx304_0 := (HB.out.cell (World.block_lt_of_cell? w _ hx304_0)).trans hx304_0
                replace hx304_1 := (HB.out.cell (World.block_lt_of_cell? w _ hx304_1)).trans hx304_1
                replace p304 := eq_true p304
                replace q304 := eq_true q304
                have p306 : 0 ≤ (x10_2 : Int) := ofd
                have q306 : x10_2 < (l2.length : Int) := ofd
                obtain ⟨ad306, e306, hx306_0, hx306_1⟩ := at_T52 HR2.out x10_2 p306 q306
                have hw306_1 := hx306_1; have hw306_0 := hx306_0
                obtain rfl : ad304 = ad306 := (by injection e306)
                replace hx306_0 := (HB.out.cell (World.block_lt_of_cell? w _ hx306_0)).trans hx306_0
                replace hx306_1 := (HB.out.cell (World.block_lt_of_cell? w _ hx306_1)).trans hx306_1
                replace p306 := eq_true p306
                replace q306 := eq_true q306
                have p307 : 0 ≤ (x10_2 : Int) := ofd
                have q307 : x10_2 < (l2.length : Int) := ofd
                obtain ⟨ad307, e307, hx307_0, hx307_1⟩ := at_T52 HR2.out x10_2 p307 q307
                have hw307_1 := hx307_1; have hw307_0 := hx307_0
                obtain rfl : ad304 = ad307 := (by injection e307)
                replace hx307_0 := (HB.out.cell (World.block_lt_of_cell? w _ hx307_0)).trans hx307_0
                replace hx307_1 := (HB.out.cell (World.block_lt_of_cell? w _ hx307_1)).trans hx307_1
                replace p307 := eq_true p307
                replace q307 := eq_true q307
                have p309 : 0 ≤ (x10_2 : Int) := ofd
                have q309 : x10_2 < (l2.length : Int) := ofd
                obtain ⟨ad309, e309, hx309_0, hx309_1⟩ := at_T52 HR2.out x10_2 p309 q309
                have hw309_1 := hx309_1; have hw309_0 := hx309_0
                obtain rfl : ad304 = ad309 := (by injection e309)
                replace hx309_0 := (HB.out.cell (World.block_lt_of_cell? w _ hx309_0)).trans hx309_0
                replace hx309_1 := (HB.out.cell (World.block_lt_of_cell? w _ hx309_1)).trans hx309_1
                replace p309 := eq_true p309
                replace q309 := eq_true q309
                obtain ⟨Ao25, co25, eo25⟩ := Kd.R_slice HO_8.out
                (first | subst eo25 | (injection eo25 with f1_ f2_ f3_; have f4_ := f1_.symm; have f5_ := f3_.symm; clear f1_ f2_ f3_; subst f4_; subst f5_))
                have p310 : 0 ≤ (((rd_T52 l2 x10_2).f0) : Int) := ofd
                have q310 : ((rd_T52 l2 x10_2).f0) < (x8_2.length : Int) := ofd
                obtain ⟨ad310, e310, hx310_0⟩ := Kd.at_int (Kd.R_reads' HO_8.out).2.2 ((rd_T52 l2 x10_2).f0) p310 q310
                cases e310
                replace p310 := eq_true p310
                replace q310 := eq_true q310
                have p311 : 0 ≤ (x10_2 : Int) := ofd
                have q311 : x10_2 < (l2.length : Int) := ofd
                obtain ⟨ad311, e311, hx311_0, hx311_1⟩ := at_T52 HR2.out x10_2 p311 q311
                have hw311_1 := hx311_1; have hw311_0 := hx311_0
                obtain rfl : ad304 = ad311 := (by injection e311)
                replace hx311_0 := (HB.out.cell (World.block_lt_of_cell? w _ hx311_0)).trans hx311_0
                replace hx311_1 := (HB.out.cell (World.block_lt_of_cell? w _ hx311_1)).trans hx311_1
                replace p311 := eq_true p311
                replace q311 := eq_true q311
                have p312 : 0 ≤ (((rd_T52 l2 x10_2).f1) : Int) := ofd
                have q312 : ((rd_T52 l2 x10_2).f1) < (x8_2.length : Int) := ofd
                obtain ⟨ad312, e312, hx312_0⟩ := Kd.at_int (Kd.R_reads' HO_8.out).2.2 ((rd_T52 l2 x10_2).f1) p312 q312
                obtain rfl : ad310 = ad312 := (by injection e312)
                replace p312 := eq_true p312
                replace q312 := eq_true q312
                refine start_ (n := 47) (S := fun w' => w'.cell? (ad304.add ((x10_2).toNat * 2)) = some (.int .i64 ((rd_T52 l2 x10_2).f0)) ∧ w'.cell? ⟨(ad304.add ((x10_2).toNat * 2)).block, (ad304.add ((x10_2).toNat * 2)).off + 1, none⟩ = some (.int .i64 ((rd_T52 l2 x10_2).f1)) ∧ w'.cell? (ad304.add ((x10_2).toNat * 2)) = some (.int .i64 ((rd_T52 l2 x10_2).f0)) ∧ w'.cell? ⟨(ad304.add ((x10_2).toNat * 2)).block, (ad304.add ((x10_2).toNat * 2)).off + 1, none⟩ = some (.int .i64 ((rd_T52 l2 x10_2).f1)) ∧ w'.cell? (ad304.add ((x10_2).toNat * 2)) = some (.int .i64 ((rd_T52 l2 x10_2).f0)) ∧ w'.cell? ⟨(ad304.add ((x10_2).toNat * 2)).block, (ad304.add ((x10_2).toNat * 2)).off + 1, none⟩ = some (.int .i64 ((rd_T52 l2 x10_2).f1)) ∧ w'.cell? (ad304.add ((x10_2).toNat * 2)) = some (.int .i64 ((rd_T52 l2 x10_2).f0)) ∧ w'.cell? ⟨(ad304.add ((x10_2).toNat * 2)).block, (ad304.add ((x10_2).toNat * 2)).off + 1, none⟩ = some (.int .i64 ((rd_T52 l2 x10_2).f1)) ∧ w'.cell? (ad310.add (((rd_T52 l2 x10_2).f0)).toNat) = some (.int .i64 (rd x8_2 ((rd_T52 l2 x10_2).f0))) ∧ w'.cell? (ad304.add ((x10_2).toNat * 2)) = some (.int .i64 ((rd_T52 l2 x10_2).f0)) ∧ w'.cell? ⟨(ad304.add ((x10_2).toNat * 2)).block, (ad304.add ((x10_2).toNat * 2)).off + 1, none⟩ = some (.int .i64 ((rd_T52 l2 x10_2).f1)) ∧ w'.cell? (ad310.add (((rd_T52 l2 x10_2).f1)).toNat) = some (.int .i64 (rd x8_2 ((rd_T52 l2 x10_2).f1)))) (ds := []) #[false, false, false, false, false, false, false, false, false, false, false, false, false, false, false, false, false, false, false, false, false, false, false, false, false, false, false, false, false, false, false, false, false, false, false, false, false, false, false, false, false, false, false, false, false, false, false] (by kernel_rfl) rfl rfl ⟨((HB.out.cell (World.block_lt_of_cell? w _ hw304_0)).trans hw304_0), ((HB.out.cell (World.block_lt_of_cell? w _ hw304_1)).trans hw304_1), ((HB.out.cell (World.block_lt_of_cell? w _ hw306_0)).trans hw306_0), ((HB.out.cell (World.block_lt_of_cell? w _ hw306_1)).trans hw306_1), ((HB.out.cell (World.block_lt_of_cell? w _ hw307_0)).trans hw307_0), ((HB.out.cell (World.block_lt_of_cell? w _ hw307_1)).trans hw307_1), ((HB.out.cell (World.block_lt_of_cell? w _ hw309_0)).trans hw309_0), ((HB.out.cell (World.block_lt_of_cell? w _ hw309_1)).trans hw309_1), hx310_0, ((HB.out.cell (World.block_lt_of_cell? w _ hw311_0)).trans hw311_0), ((HB.out.cell (World.block_lt_of_cell? w _ hw311_1)).trans hw311_1), hx312_0⟩ (fun hHeld => ?_); refine with_tabW gampref04_Tree.tab12 gampref04_Tree.bits12 (fun HT_ HW_ => ?_)
                generalize wr.drew = w24 at HO_7 HO_8 HB hx304_0 hx304_1 hx306_0 hx306_1 hx307_0 hx307_1 hx309_0 hx309_1 hx310_0 hx311_0 hx311_1 hx312_0 hHeld ⊢
                refine pr 0 45 HT_ ?_
                refine pr 1 46 HT_ ?_
                refine pr 2 47 HT_ ?_
                refine pr 3 48 HT_ ?_
                refine pr 5 50 HT_ ?_
                refine pr 6 51 HT_ ?_
                refine pr 7 52 HT_ ?_
                refine tr 4 49 HT_ HW_ hHeld ?_
                refine on 8 (some 53) HT_ (fun K hK => ?_)
                refine gS Try.func55 #[.int .i64 ((rd_T52 l2 x10_2).f0), .int .i64 0, .int .i64 (wrap64 ((t295.length : Int) - 1))] ?_
                with_reducible refine (gampref04_in.calls ((rd_T52 l2 x10_2).f0) 0 (wrap64 ((t295.length : Int) - 1)) true _ A16.out).mono ?_
                rintro e w' ⟨rfl, ⟨nd, rfl⟩⟩
                refine ⟨_, rfl, ?_⟩
                refine hK.out _ _ ⟨((HB.out.cell (World.block_lt_of_cell? w _ hw304_0)).trans hw304_0), ((HB.out.cell (World.block_lt_of_cell? w _ hw304_1)).trans hw304_1), ((HB.out.cell (World.block_lt_of_cell? w _ hw306_0)).trans hw306_0), ((HB.out.cell (World.block_lt_of_cell? w _ hw306_1)).trans hw306_1), ((HB.out.cell (World.block_lt_of_cell? w _ hw307_0)).trans hw307_0), ((HB.out.cell (World.block_lt_of_cell? w _ hw307_1)).trans hw307_1), ((HB.out.cell (World.block_lt_of_cell? w _ hw309_0)).trans hw309_0), ((HB.out.cell (World.block_lt_of_cell? w _ hw309_1)).trans hw309_1), hHeld.2.2.2.2.2.2.2.2.1, ((HB.out.cell (World.block_lt_of_cell? w _ hw311_0)).trans hw311_0), ((HB.out.cell (World.block_lt_of_cell? w _ hw311_1)).trans hw311_1), hHeld.2.2.2.2.2.2.2.2.2.2.2⟩ (fun hHeld => ?_)
                clear hK K
                refine nr (some 53) ?_
                refine pr 9 54 HT_ ?_
                refine pr 10 55 HT_ ?_
                refine pr 11 56 HT_ ?_
                refine pr 12 57 HT_ ?_
                refine pr 13 58 HT_ ?_
                refine pr 14 59 HT_ ?_
                refine pr 16 61 HT_ ?_
                refine pr 17 62 HT_ ?_
                refine pr 18 63 HT_ ?_
                refine pr 19 64 HT_ ?_
                refine pr 22 67 HT_ ?_
                refine pr 23 68 HT_ ?_
                refine pr 24 69 HT_ ?_
                refine tr 15 60 HT_ HW_ hHeld ?_
                refine tr 20 65 HT_ HW_ hHeld ?_
                refine pr 21 66 HT_ ?_
                refine on 25 (some 70) HT_ (fun K hK => ?_)
                refine gS Try.func55 #[.int .i64 ((rd_T52 l2 x10_2).f1), .int .i64 (wrap64 (((rd_T52 l2 x10_2).f0) + 1)), .int .i64 (wrap64 ((t295.length : Int) - 1))] ?_
                with_reducible refine (gampref04_in.calls ((rd_T52 l2 x10_2).f1) (wrap64 (((rd_T52 l2 x10_2).f0) + 1)) (wrap64 ((t295.length : Int) - 1)) true _ A18.out).mono ?_
                rintro e w' ⟨rfl, ⟨nd, rfl⟩⟩
                refine ⟨_, rfl, ?_⟩
                refine hK.out _ _ ⟨((HB.out.cell (World.block_lt_of_cell? w _ hw304_0)).trans hw304_0), ((HB.out.cell (World.block_lt_of_cell? w _ hw304_1)).trans hw304_1), ((HB.out.cell (World.block_lt_of_cell? w _ hw306_0)).trans hw306_0), ((HB.out.cell (World.block_lt_of_cell? w _ hw306_1)).trans hw306_1), ((HB.out.cell (World.block_lt_of_cell? w _ hw307_0)).trans hw307_0), ((HB.out.cell (World.block_lt_of_cell? w _ hw307_1)).trans hw307_1), ((HB.out.cell (World.block_lt_of_cell? w _ hw309_0)).trans hw309_0), ((HB.out.cell (World.block_lt_of_cell? w _ hw309_1)).trans hw309_1), hHeld.2.2.2.2.2.2.2.2.1, ((HB.out.cell (World.block_lt_of_cell? w _ hw311_0)).trans hw311_0), ((HB.out.cell (World.block_lt_of_cell? w _ hw311_1)).trans hw311_1), hHeld.2.2.2.2.2.2.2.2.2.2.2⟩ (fun hHeld => ?_)
                clear hK K
                refine nr (some 70) ?_
                refine pr 26 71 HT_ ?_
                refine pr 27 72 HT_ ?_
                refine pr 28 73 HT_ ?_
                refine pr 29 74 HT_ ?_
                refine pr 30 75 HT_ ?_
                refine pr 31 76 HT_ ?_
                refine pr 32 77 HT_ ?_
                refine pr 33 78 HT_ ?_
                refine pr 37 82 HT_ ?_
                refine pr 38 83 HT_ ?_
                refine pr 39 84 HT_ ?_
                refine pr 40 85 HT_ ?_
                refine pr 41 86 HT_ ?_
                refine tr 34 79 HT_ HW_ hHeld ?_
                refine pr 35 80 HT_ ?_
                refine tr 36 81 HT_ HW_ hHeld ?_
                refine tr 42 87 HT_ HW_ hHeld ?_
                refine pr 43 88 HT_ ?_
                refine tr 44 89 HT_ HW_ hHeld ?_
                refine pr 45 90 HT_ ?_
                refine pr 46 91 HT_ ?_
                refine dn HT_ ?_
                try go_wp2
                go_meet
                case rel => exact ⟨_, (((rd x8_2 ((rd_T52 l2 x10_2).f0)) == (rd x8_2 ((rd_T52 l2 x10_2).f1)))), (by first | rfl | (simp; done) | (simp [*]; done)), H', ⟨by have := HK1.out; have := HK2.out; first | omega | exact Nat.le_refl _⟩, ⟨nl HO_7⟩, ⟨rl HO_8⟩, ⟨bl HB⟩⟩
               ·rw [if_neg c23] at H
                exact absurd H (by simp)
              ·rw [if_neg c22] at H
               exact absurd H (by simp)
             ·rw [if_neg c21] at H
              exact absurd H (by simp)
            ·rw [if_neg c20] at H
             exact absurd H (by simp)
           ·replace c19 := Bool.eq_false_iff.mpr c19
            subst c19
            have H1 : (gampref04_Tree.j2 k2 a0 l2 t295 x8_2 x10_2 true) = some r := by rw [if_neg (show ¬ (false = true) by decide)] at H; exact H
            clear H
            have H := H1
            clear H1
            have H' := Aside0.mk H
            clear H
            try go_wp2
            have n0_ := Aside0.mk (Kd.N_drew HO_7.out)
            have n1_ := Aside0.mk (Kd.R_drew HO_8.out)
            have n2_ := Aside0.mk (below_drew1 HB.out)
            clear HO_7 HO_8 HB
            have HO_7 := n0_; have HO_8 := n1_; have HB := n2_
            clear n0_ n1_ n2_
            have p304 : 0 ≤ (x10_2 : Int) := ofd
            have q304 : x10_2 < (l2.length : Int) := ofd
            obtain ⟨ad304, e304, hx304_0, hx304_1⟩ := at_T52 HR2.out x10_2 p304 q304
            have hw304_1 := hx304_1; have hw304_0 := hx304_0
            cases e304
            replace hx304_0 := (HB.out.cell (World.block_lt_of_cell? w _ hx304_0)).trans hx304_0
            replace hx304_1 := (HB.out.cell (World.block_lt_of_cell? w _ hx304_1)).trans hx304_1
            replace p304 := eq_true p304
            replace q304 := eq_true q304
            have p306 : 0 ≤ (x10_2 : Int) := ofd
            have q306 : x10_2 < (l2.length : Int) := ofd
            obtain ⟨ad306, e306, hx306_0, hx306_1⟩ := at_T52 HR2.out x10_2 p306 q306
            have hw306_1 := hx306_1; have hw306_0 := hx306_0
            obtain rfl : ad304 = ad306 := (by injection e306)
            replace hx306_0 := (HB.out.cell (World.block_lt_of_cell? w _ hx306_0)).trans hx306_0
            replace hx306_1 := (HB.out.cell (World.block_lt_of_cell? w _ hx306_1)).trans hx306_1
            replace p306 := eq_true p306
            replace q306 := eq_true q306
            have p307 : 0 ≤ (x10_2 : Int) := ofd
            have q307 : x10_2 < (l2.length : Int) := ofd
            obtain ⟨ad307, e307, hx307_0, hx307_1⟩ := at_T52 HR2.out x10_2 p307 q307
            have hw307_1 := hx307_1; have hw307_0 := hx307_0
            obtain rfl : ad304 = ad307 := (by injection e307)
            replace hx307_0 := (HB.out.cell (World.block_lt_of_cell? w _ hx307_0)).trans hx307_0
            replace hx307_1 := (HB.out.cell (World.block_lt_of_cell? w _ hx307_1)).trans hx307_1
            replace p307 := eq_true p307
            replace q307 := eq_true q307
            refine start_ (n := 47) (S := fun w' => w'.cell? (ad304.add ((x10_2).toNat * 2)) = some (.int .i64 ((rd_T52 l2 x10_2).f0)) ∧ w'.cell? ⟨(ad304.add ((x10_2).toNat * 2)).block, (ad304.add ((x10_2).toNat * 2)).off + 1, none⟩ = some (.int .i64 ((rd_T52 l2 x10_2).f1)) ∧ w'.cell? (ad304.add ((x10_2).toNat * 2)) = some (.int .i64 ((rd_T52 l2 x10_2).f0)) ∧ w'.cell? ⟨(ad304.add ((x10_2).toNat * 2)).block, (ad304.add ((x10_2).toNat * 2)).off + 1, none⟩ = some (.int .i64 ((rd_T52 l2 x10_2).f1)) ∧ w'.cell? (ad304.add ((x10_2).toNat * 2)) = some (.int .i64 ((rd_T52 l2 x10_2).f0)) ∧ w'.cell? ⟨(ad304.add ((x10_2).toNat * 2)).block, (ad304.add ((x10_2).toNat * 2)).off + 1, none⟩ = some (.int .i64 ((rd_T52 l2 x10_2).f1))) (ds := []) #[false, false, false, false, false, false, false, false, false, false, false, false, false, false, false, false, false, false, false, false, false, false, false, false, false, false, false, false, false, false, false, false, false, false, false, false, false, false, false, false, false, false, false, false, false, false, false] (by kernel_rfl) rfl rfl ⟨((HB.out.cell (World.block_lt_of_cell? w _ hw304_0)).trans hw304_0), ((HB.out.cell (World.block_lt_of_cell? w _ hw304_1)).trans hw304_1), ((HB.out.cell (World.block_lt_of_cell? w _ hw306_0)).trans hw306_0), ((HB.out.cell (World.block_lt_of_cell? w _ hw306_1)).trans hw306_1), ((HB.out.cell (World.block_lt_of_cell? w _ hw307_0)).trans hw307_0), ((HB.out.cell (World.block_lt_of_cell? w _ hw307_1)).trans hw307_1)⟩ (fun hHeld => ?_); refine with_tabW gampref04_Tree.tab12 gampref04_Tree.bits12 (fun HT_ HW_ => ?_)
            generalize wr.drew = w26 at HO_7 HO_8 HB hx304_0 hx304_1 hx306_0 hx306_1 hx307_0 hx307_1 hHeld ⊢
            refine pr 0 45 HT_ ?_
            refine pr 1 46 HT_ ?_
            refine pr 2 47 HT_ ?_
            refine pr 3 48 HT_ ?_
            refine pr 5 50 HT_ ?_
            refine pr 6 51 HT_ ?_
            refine pr 7 52 HT_ ?_
            refine tr 4 49 HT_ HW_ hHeld ?_
            refine on 8 (some 53) HT_ (fun K hK => ?_)
            refine gS Try.func55 #[.int .i64 ((rd_T52 l2 x10_2).f0), .int .i64 0, .int .i64 (wrap64 ((t295.length : Int) - 1))] ?_
            with_reducible refine (gampref04_in.calls ((rd_T52 l2 x10_2).f0) 0 (wrap64 ((t295.length : Int) - 1)) true _ A16.out).mono ?_
            rintro e w' ⟨rfl, ⟨nd, rfl⟩⟩
            refine ⟨_, rfl, ?_⟩
            refine hK.out _ _ ⟨((HB.out.cell (World.block_lt_of_cell? w _ hw304_0)).trans hw304_0), ((HB.out.cell (World.block_lt_of_cell? w _ hw304_1)).trans hw304_1), ((HB.out.cell (World.block_lt_of_cell? w _ hw306_0)).trans hw306_0), ((HB.out.cell (World.block_lt_of_cell? w _ hw306_1)).trans hw306_1), ((HB.out.cell (World.block_lt_of_cell? w _ hw307_0)).trans hw307_0), ((HB.out.cell (World.block_lt_of_cell? w _ hw307_1)).trans hw307_1)⟩ (fun hHeld => ?_)
            clear hK K
            refine nr (some 53) ?_
            refine pr 9 54 HT_ ?_
            refine pr 10 55 HT_ ?_
            refine pr 11 56 HT_ ?_
            refine pr 12 57 HT_ ?_
            refine pr 13 58 HT_ ?_
            refine pr 14 59 HT_ ?_
            refine pr 16 61 HT_ ?_
            refine pr 17 62 HT_ ?_
            refine pr 18 63 HT_ ?_
            refine pr 19 64 HT_ ?_
            refine pr 22 67 HT_ ?_
            refine pr 23 68 HT_ ?_
            refine pr 24 69 HT_ ?_
            refine tr 15 60 HT_ HW_ hHeld ?_
            refine tr 20 65 HT_ HW_ hHeld ?_
            refine pr 21 66 HT_ ?_
            refine on 25 (some 70) HT_ (fun K hK => ?_)
            refine gS Try.func55 #[.int .i64 ((rd_T52 l2 x10_2).f1), .int .i64 (wrap64 (((rd_T52 l2 x10_2).f0) + 1)), .int .i64 (wrap64 ((t295.length : Int) - 1))] ?_
            with_reducible refine (gampref04_in.calls ((rd_T52 l2 x10_2).f1) (wrap64 (((rd_T52 l2 x10_2).f0) + 1)) (wrap64 ((t295.length : Int) - 1)) false _ A18.out).mono ?_
            rintro e w' ⟨rfl, ⟨nd, rfl⟩⟩
            refine ⟨_, rfl, ?_⟩
            refine hK.out _ _ ⟨((HB.out.cell (World.block_lt_of_cell? w _ hw304_0)).trans hw304_0), ((HB.out.cell (World.block_lt_of_cell? w _ hw304_1)).trans hw304_1), ((HB.out.cell (World.block_lt_of_cell? w _ hw306_0)).trans hw306_0), ((HB.out.cell (World.block_lt_of_cell? w _ hw306_1)).trans hw306_1), ((HB.out.cell (World.block_lt_of_cell? w _ hw307_0)).trans hw307_0), ((HB.out.cell (World.block_lt_of_cell? w _ hw307_1)).trans hw307_1)⟩ (fun hHeld => ?_)
            clear hK K
            refine nr (some 70) ?_
            refine pr 26 71 HT_ ?_
            refine pr 27 72 HT_ ?_
            refine pr 28 73 HT_ ?_
            refine pure_ (i := 29) (N := some 74) (v := undef) (a' := ?_) #[true, true, true, true, true, true, true, true, true, true, true, true, true, true, true, true, true, true, true, true, true, true, true, true, true, true, true, true, true, true, false, false, false, false, false, false, false, false, false, false, false, false, false, false, false, false, false] rfl rfl (any_of HT_.out (by kernel_rfl)) (fun _ _ _ h => h) (Or.inr ⟨by rfl, rfl⟩) ?_ ?_
            rotate_left
            ·simp only [Act.put, List.setIfInBounds_toArray, List.set_cons_zero, List.set_cons_succ, i64_w, i32_w]
             rfl
            refine pure_ (i := 30) (N := some 75) (v := undef) (a' := ?_) #[true, true, true, true, true, true, true, true, true, true, true, true, true, true, true, true, true, true, true, true, true, true, true, true, true, true, true, true, true, true, true, false, false, false, false, false, false, false, false, false, false, false, false, false, false, false, false] rfl rfl (any_of HT_.out (by kernel_rfl)) (fun _ _ _ h => h) (Or.inr ⟨by rfl, rfl⟩) ?_ ?_
            rotate_left
            ·simp only [Act.put, List.setIfInBounds_toArray, List.set_cons_zero, List.set_cons_succ, i64_w, i32_w]
             rfl
            refine pure_ (i := 31) (N := some 76) (v := undef) (a' := ?_) #[true, true, true, true, true, true, true, true, true, true, true, true, true, true, true, true, true, true, true, true, true, true, true, true, true, true, true, true, true, true, true, true, false, false, false, false, false, false, false, false, false, false, false, false, false, false, false] rfl rfl (any_of HT_.out (by kernel_rfl)) (fun _ _ _ h => h) (Or.inr ⟨by rfl, rfl⟩) ?_ ?_
            rotate_left
            ·simp only [Act.put, List.setIfInBounds_toArray, List.set_cons_zero, List.set_cons_succ, i64_w, i32_w]
             rfl
            refine pure_ (i := 32) (N := some 77) (v := undef) (a' := ?_) #[true, true, true, true, true, true, true, true, true, true, true, true, true, true, true, true, true, true, true, true, true, true, true, true, true, true, true, true, true, true, true, true, true, false, false, false, false, false, false, false, false, false, false, false, false, false, false] rfl rfl (any_of HT_.out (by kernel_rfl)) (fun _ _ _ h => h) (Or.inr ⟨by rfl, rfl⟩) ?_ ?_
            rotate_left
            ·simp only [Act.put, List.setIfInBounds_toArray, List.set_cons_zero, List.set_cons_succ, i64_w, i32_w]
             rfl
            refine pure_ (i := 33) (N := some 78) (v := undef) (a' := ?_) #[true, true, true, true, true, true, true, true, true, true, true, true, true, true, true, true, true, true, true, true, true, true, true, true, true, true, true, true, true, true, true, true, true, true, false, false, false, false, false, false, false, false, false, false, false, false, false] rfl rfl (any_of HT_.out (by kernel_rfl)) (fun _ _ _ h => h) (Or.inr ⟨by rfl, rfl⟩) ?_ ?_
            rotate_left
            ·simp only [Act.put, List.setIfInBounds_toArray, List.set_cons_zero, List.set_cons_succ, i64_w, i32_w]
             rfl
            refine pure_ (i := 34) (N := some 79) (v := undef) (a' := ?_) #[true, true, true, true, true, true, true, true, true, true, true, true, true, true, true, true, true, true, true, true, true, true, true, true, true, true, true, true, true, true, true, true, true, true, true, false, false, false, false, false, false, false, false, false, false, false, false] rfl rfl (any_of HT_.out (by kernel_rfl)) (fun _ _ _ h => h) (Or.inr ⟨by rfl, rfl⟩) ?_ ?_
            rotate_left
            ·simp only [Act.put, List.setIfInBounds_toArray, List.set_cons_zero, List.set_cons_succ, i64_w, i32_w]
             rfl
            refine pure_ (i := 35) (N := some 80) (v := undef) (a' := ?_) #[true, true, true, true, true, true, true, true, true, true, true, true, true, true, true, true, true, true, true, true, true, true, true, true, true, true, true, true, true, true, true, true, true, true, true, true, false, false, false, false, false, false, false, false, false, false, false] rfl rfl (any_of HT_.out (by kernel_rfl)) (fun _ _ _ h => h) (Or.inr ⟨by rfl, rfl⟩) ?_ ?_
            rotate_left
            ·simp only [Act.put, List.setIfInBounds_toArray, List.set_cons_zero, List.set_cons_succ, i64_w, i32_w]
             rfl
            refine pure_ (i := 36) (N := some 81) (v := undef) (a' := ?_) #[true, true, true, true, true, true, true, true, true, true, true, true, true, true, true, true, true, true, true, true, true, true, true, true, true, true, true, true, true, true, true, true, true, true, true, true, true, false, false, false, false, false, false, false, false, false, false] rfl rfl (any_of HT_.out (by kernel_rfl)) (fun _ _ _ h => h) (Or.inr ⟨by rfl, rfl⟩) ?_ ?_
            rotate_left
            ·simp only [Act.put, List.setIfInBounds_toArray, List.set_cons_zero, List.set_cons_succ, i64_w, i32_w]
             rfl
            refine pure_ (i := 37) (N := some 82) (v := undef) (a' := ?_) #[true, true, true, true, true, true, true, true, true, true, true, true, true, true, true, true, true, true, true, true, true, true, true, true, true, true, true, true, true, true, true, true, true, true, true, true, true, true, false, false, false, false, false, false, false, false, false] rfl rfl (any_of HT_.out (by kernel_rfl)) (fun _ _ _ h => h) (Or.inr ⟨by rfl, rfl⟩) ?_ ?_
            rotate_left
            ·simp only [Act.put, List.setIfInBounds_toArray, List.set_cons_zero, List.set_cons_succ, i64_w, i32_w]
             rfl
            refine pure_ (i := 38) (N := some 83) (v := undef) (a' := ?_) #[true, true, true, true, true, true, true, true, true, true, true, true, true, true, true, true, true, true, true, true, true, true, true, true, true, true, true, true, true, true, true, true, true, true, true, true, true, true, true, false, false, false, false, false, false, false, false] rfl rfl (any_of HT_.out (by kernel_rfl)) (fun _ _ _ h => h) (Or.inr ⟨by rfl, rfl⟩) ?_ ?_
            rotate_left
            ·simp only [Act.put, List.setIfInBounds_toArray, List.set_cons_zero, List.set_cons_succ, i64_w, i32_w]
             rfl
            refine pure_ (i := 39) (N := some 84) (v := undef) (a' := ?_) #[true, true, true, true, true, true, true, true, true, true, true, true, true, true, true, true, true, true, true, true, true, true, true, true, true, true, true, true, true, true, true, true, true, true, true, true, true, true, true, true, false, false, false, false, false, false, false] rfl rfl (any_of HT_.out (by kernel_rfl)) (fun _ _ _ h => h) (Or.inr ⟨by rfl, rfl⟩) ?_ ?_
            rotate_left
            ·simp only [Act.put, List.setIfInBounds_toArray, List.set_cons_zero, List.set_cons_succ, i64_w, i32_w]
             rfl
            refine pure_ (i := 40) (N := some 85) (v := undef) (a' := ?_) #[true, true, true, true, true, true, true, true, true, true, true, true, true, true, true, true, true, true, true, true, true, true, true, true, true, true, true, true, true, true, true, true, true, true, true, true, true, true, true, true, true, false, false, false, false, false, false] rfl rfl (any_of HT_.out (by kernel_rfl)) (fun _ _ _ h => h) (Or.inr ⟨by rfl, rfl⟩) ?_ ?_
            rotate_left
            ·simp only [Act.put, List.setIfInBounds_toArray, List.set_cons_zero, List.set_cons_succ, i64_w, i32_w]
             rfl
            refine pure_ (i := 41) (N := some 86) (v := undef) (a' := ?_) #[true, true, true, true, true, true, true, true, true, true, true, true, true, true, true, true, true, true, true, true, true, true, true, true, true, true, true, true, true, true, true, true, true, true, true, true, true, true, true, true, true, true, false, false, false, false, false] rfl rfl (any_of HT_.out (by kernel_rfl)) (fun _ _ _ h => h) (Or.inr ⟨by rfl, rfl⟩) ?_ ?_
            rotate_left
            ·simp only [Act.put, List.setIfInBounds_toArray, List.set_cons_zero, List.set_cons_succ, i64_w, i32_w]
             rfl
            refine pure_ (i := 42) (N := some 87) (v := undef) (a' := ?_) #[true, true, true, true, true, true, true, true, true, true, true, true, true, true, true, true, true, true, true, true, true, true, true, true, true, true, true, true, true, true, true, true, true, true, true, true, true, true, true, true, true, true, true, false, false, false, false] rfl rfl (any_of HT_.out (by kernel_rfl)) (fun _ _ _ h => h) (Or.inr ⟨by rfl, rfl⟩) ?_ ?_
            rotate_left
            ·simp only [Act.put, List.setIfInBounds_toArray, List.set_cons_zero, List.set_cons_succ, i64_w, i32_w]
             rfl
            refine pure_ (i := 43) (N := some 88) (v := undef) (a' := ?_) #[true, true, true, true, true, true, true, true, true, true, true, true, true, true, true, true, true, true, true, true, true, true, true, true, true, true, true, true, true, true, true, true, true, true, true, true, true, true, true, true, true, true, true, true, false, false, false] rfl rfl (any_of HT_.out (by kernel_rfl)) (fun _ _ _ h => h) (Or.inr ⟨by rfl, rfl⟩) ?_ ?_
            rotate_left
            ·simp only [Act.put, List.setIfInBounds_toArray, List.set_cons_zero, List.set_cons_succ, i64_w, i32_w]
             rfl
            refine pure_ (i := 44) (N := some 89) (v := undef) (a' := ?_) #[true, true, true, true, true, true, true, true, true, true, true, true, true, true, true, true, true, true, true, true, true, true, true, true, true, true, true, true, true, true, true, true, true, true, true, true, true, true, true, true, true, true, true, true, true, false, false] rfl rfl (any_of HT_.out (by kernel_rfl)) (fun _ _ _ h => h) (Or.inr ⟨by rfl, rfl⟩) ?_ ?_
            rotate_left
            ·simp only [Act.put, List.setIfInBounds_toArray, List.set_cons_zero, List.set_cons_succ, i64_w, i32_w]
             rfl
            refine pure_ (i := 45) (N := some 90) (v := undef) (a' := ?_) #[true, true, true, true, true, true, true, true, true, true, true, true, true, true, true, true, true, true, true, true, true, true, true, true, true, true, true, true, true, true, true, true, true, true, true, true, true, true, true, true, true, true, true, true, true, true, false] rfl rfl (any_of HT_.out (by kernel_rfl)) (fun _ _ _ h => h) (Or.inr ⟨by rfl, rfl⟩) ?_ ?_
            rotate_left
            ·simp only [Act.put, List.setIfInBounds_toArray, List.set_cons_zero, List.set_cons_succ, i64_w, i32_w]
             rfl
            refine pr 46 91 HT_ ?_
            refine dn HT_ ?_
            try go_wp2
            go_meet
            case rel => exact ⟨_, (true), (by first | rfl | (simp; done) | (simp [*]; done)), H', ⟨by have := HK1.out; have := HK2.out; first | omega | exact Nat.le_refl _⟩, ⟨nl HO_7⟩, ⟨rl HO_8⟩, ⟨bl HB⟩⟩
          ·replace c17 := Bool.eq_false_iff.mpr c17
           subst c17
           have H1 : (gampref04_Tree.j2 k2 a0 l2 t295 x8_2 x10_2 true) = some r := by rw [if_neg (show ¬ (false = true) by decide)] at H; exact H
           clear H
           have H := H1
           clear H1
           have H' := Aside0.mk H
           clear H
           try go_wp2
           have n0_ := Aside0.mk (Kd.N_drew HO_7.out)
           have n1_ := Aside0.mk (Kd.R_drew HO_8.out)
           have n2_ := Aside0.mk (below_drew1 HB.out)
           clear HO_7 HO_8 HB
           have HO_7 := n0_; have HO_8 := n1_; have HB := n2_
           clear n0_ n1_ n2_
           have p304 : 0 ≤ (x10_2 : Int) := ofd
           have q304 : x10_2 < (l2.length : Int) := ofd
           obtain ⟨ad304, e304, hx304_0, hx304_1⟩ := at_T52 HR2.out x10_2 p304 q304
           have hw304_1 := hx304_1; have hw304_0 := hx304_0
           cases e304
           replace hx304_0 := (HB.out.cell (World.block_lt_of_cell? w _ hx304_0)).trans hx304_0
           replace hx304_1 := (HB.out.cell (World.block_lt_of_cell? w _ hx304_1)).trans hx304_1
           replace p304 := eq_true p304
           replace q304 := eq_true q304
           refine start_ (n := 47) (S := fun w' => w'.cell? (ad304.add ((x10_2).toNat * 2)) = some (.int .i64 ((rd_T52 l2 x10_2).f0)) ∧ w'.cell? ⟨(ad304.add ((x10_2).toNat * 2)).block, (ad304.add ((x10_2).toNat * 2)).off + 1, none⟩ = some (.int .i64 ((rd_T52 l2 x10_2).f1))) (ds := []) #[false, false, false, false, false, false, false, false, false, false, false, false, false, false, false, false, false, false, false, false, false, false, false, false, false, false, false, false, false, false, false, false, false, false, false, false, false, false, false, false, false, false, false, false, false, false, false] (by kernel_rfl) rfl rfl ⟨((HB.out.cell (World.block_lt_of_cell? w _ hw304_0)).trans hw304_0), ((HB.out.cell (World.block_lt_of_cell? w _ hw304_1)).trans hw304_1)⟩ (fun hHeld => ?_); refine with_tabW gampref04_Tree.tab12 gampref04_Tree.bits12 (fun HT_ HW_ => ?_)
           generalize wr.drew = w27 at HO_7 HO_8 HB hx304_0 hx304_1 hHeld ⊢
           refine pr 0 45 HT_ ?_
           refine pr 1 46 HT_ ?_
           refine pr 2 47 HT_ ?_
           refine pr 3 48 HT_ ?_
           refine pr 5 50 HT_ ?_
           refine pr 6 51 HT_ ?_
           refine pr 7 52 HT_ ?_
           refine tr 4 49 HT_ HW_ hHeld ?_
           refine on 8 (some 53) HT_ (fun K hK => ?_)
           refine gS Try.func55 #[.int .i64 ((rd_T52 l2 x10_2).f0), .int .i64 0, .int .i64 (wrap64 ((t295.length : Int) - 1))] ?_
           with_reducible refine (gampref04_in.calls ((rd_T52 l2 x10_2).f0) 0 (wrap64 ((t295.length : Int) - 1)) false _ A16.out).mono ?_
           rintro e w' ⟨rfl, ⟨nd, rfl⟩⟩
           refine ⟨_, rfl, ?_⟩
           refine hK.out _ _ ⟨((HB.out.cell (World.block_lt_of_cell? w _ hw304_0)).trans hw304_0), ((HB.out.cell (World.block_lt_of_cell? w _ hw304_1)).trans hw304_1)⟩ (fun hHeld => ?_)
           clear hK K
           refine nr (some 53) ?_
           refine pr 9 54 HT_ ?_
           refine pr 10 55 HT_ ?_
           refine pure_ (i := 11) (N := some 56) (v := undef) (a' := ?_) #[true, true, true, true, true, true, true, true, true, true, true, true, false, false, false, false, false, false, false, false, false, false, false, false, false, false, false, false, false, false, false, false, false, false, false, false, false, false, false, false, false, false, false, false, false, false, false] rfl rfl (any_of HT_.out (by kernel_rfl)) (fun _ _ _ h => h) (Or.inr ⟨by rfl, rfl⟩) ?_ ?_
           rotate_left
           ·simp only [Act.put, List.setIfInBounds_toArray, List.set_cons_zero, List.set_cons_succ, i64_w, i32_w]
            rfl
           refine pure_ (i := 12) (N := some 57) (v := undef) (a' := ?_) #[true, true, true, true, true, true, true, true, true, true, true, true, true, false, false, false, false, false, false, false, false, false, false, false, false, false, false, false, false, false, false, false, false, false, false, false, false, false, false, false, false, false, false, false, false, false, false] rfl rfl (any_of HT_.out (by kernel_rfl)) (fun _ _ _ h => h) (Or.inr ⟨by rfl, rfl⟩) ?_ ?_
           rotate_left
           ·simp only [Act.put, List.setIfInBounds_toArray, List.set_cons_zero, List.set_cons_succ, i64_w, i32_w]
            rfl
           refine pure_ (i := 13) (N := some 58) (v := undef) (a' := ?_) #[true, true, true, true, true, true, true, true, true, true, true, true, true, true, false, false, false, false, false, false, false, false, false, false, false, false, false, false, false, false, false, false, false, false, false, false, false, false, false, false, false, false, false, false, false, false, false] rfl rfl (any_of HT_.out (by kernel_rfl)) (fun _ _ _ h => h) (Or.inr ⟨by rfl, rfl⟩) ?_ ?_
           rotate_left
           ·simp only [Act.put, List.setIfInBounds_toArray, List.set_cons_zero, List.set_cons_succ, i64_w, i32_w]
            rfl
           refine pure_ (i := 14) (N := some 59) (v := undef) (a' := ?_) #[true, true, true, true, true, true, true, true, true, true, true, true, true, true, true, false, false, false, false, false, false, false, false, false, false, false, false, false, false, false, false, false, false, false, false, false, false, false, false, false, false, false, false, false, false, false, false] rfl rfl (any_of HT_.out (by kernel_rfl)) (fun _ _ _ h => h) (Or.inr ⟨by rfl, rfl⟩) ?_ ?_
           rotate_left
           ·simp only [Act.put, List.setIfInBounds_toArray, List.set_cons_zero, List.set_cons_succ, i64_w, i32_w]
            rfl
           refine pure_ (i := 15) (N := some 60) (v := undef) (a' := ?_) #[true, true, true, true, true, true, true, true, true, true, true, true, true, true, true, true, false, false, false, false, false, false, false, false, false, false, false, false, false, false, false, false, false, false, false, false, false, false, false, false, false, false, false, false, false, false, false] rfl rfl (any_of HT_.out (by kernel_rfl)) (fun _ _ _ h => h) (Or.inr ⟨by rfl, rfl⟩) ?_ ?_
           rotate_left
           ·simp only [Act.put, List.setIfInBounds_toArray, List.set_cons_zero, List.set_cons_succ, i64_w, i32_w]
            rfl
           refine pure_ (i := 16) (N := some 61) (v := undef) (a' := ?_) #[true, true, true, true, true, true, true, true, true, true, true, true, true, true, true, true, true, false, false, false, false, false, false, false, false, false, false, false, false, false, false, false, false, false, false, false, false, false, false, false, false, false, false, false, false, false, false] rfl rfl (any_of HT_.out (by kernel_rfl)) (fun _ _ _ h => h) (Or.inr ⟨by rfl, rfl⟩) ?_ ?_
           rotate_left
           ·simp only [Act.put, List.setIfInBounds_toArray, List.set_cons_zero, List.set_cons_succ, i64_w, i32_w]
            rfl
           refine pure_ (i := 17) (N := some 62) (v := undef) (a' := ?_) #[true, true, true, true, true, true, true, true, true, true, true, true, true, true, true, true, true, true, false, false, false, false, false, false, false, false, false, false, false, false, false, false, false, false, false, false, false, false, false, false, false, false, false, false, false, false, false] rfl rfl (any_of HT_.out (by kernel_rfl)) (fun _ _ _ h => h) (Or.inr ⟨by rfl, rfl⟩) ?_ ?_
           rotate_left
           ·simp only [Act.put, List.setIfInBounds_toArray, List.set_cons_zero, List.set_cons_succ, i64_w, i32_w]
            rfl
           refine pure_ (i := 18) (N := some 63) (v := undef) (a' := ?_) #[true, true, true, true, true, true, true, true, true, true, true, true, true, true, true, true, true, true, true, false, false, false, false, false, false, false, false, false, false, false, false, false, false, false, false, false, false, false, false, false, false, false, false, false, false, false, false] rfl rfl (any_of HT_.out (by kernel_rfl)) (fun _ _ _ h => h) (Or.inr ⟨by rfl, rfl⟩) ?_ ?_
           rotate_left
           ·simp only [Act.put, List.setIfInBounds_toArray, List.set_cons_zero, List.set_cons_succ, i64_w, i32_w]
            rfl
           refine pure_ (i := 19) (N := some 64) (v := undef) (a' := ?_) #[true, true, true, true, true, true, true, true, true, true, true, true, true, true, true, true, true, true, true, true, false, false, false, false, false, false, false, false, false, false, false, false, false, false, false, false, false, false, false, false, false, false, false, false, false, false, false] rfl rfl (any_of HT_.out (by kernel_rfl)) (fun _ _ _ h => h) (Or.inr ⟨by rfl, rfl⟩) ?_ ?_
           rotate_left
           ·simp only [Act.put, List.setIfInBounds_toArray, List.set_cons_zero, List.set_cons_succ, i64_w, i32_w]
            rfl
           refine pure_ (i := 20) (N := some 65) (v := undef) (a' := ?_) #[true, true, true, true, true, true, true, true, true, true, true, true, true, true, true, true, true, true, true, true, true, false, false, false, false, false, false, false, false, false, false, false, false, false, false, false, false, false, false, false, false, false, false, false, false, false, false] rfl rfl (any_of HT_.out (by kernel_rfl)) (fun _ _ _ h => h) (Or.inr ⟨by rfl, rfl⟩) ?_ ?_
           rotate_left
           ·simp only [Act.put, List.setIfInBounds_toArray, List.set_cons_zero, List.set_cons_succ, i64_w, i32_w]
            rfl
           refine pure_ (i := 21) (N := some 66) (v := undef) (a' := ?_) #[true, true, true, true, true, true, true, true, true, true, true, true, true, true, true, true, true, true, true, true, true, true, false, false, false, false, false, false, false, false, false, false, false, false, false, false, false, false, false, false, false, false, false, false, false, false, false] rfl rfl (any_of HT_.out (by kernel_rfl)) (fun _ _ _ h => h) (Or.inr ⟨by rfl, rfl⟩) ?_ ?_
           rotate_left
           ·simp only [Act.put, List.setIfInBounds_toArray, List.set_cons_zero, List.set_cons_succ, i64_w, i32_w]
            rfl
           refine pure_ (i := 22) (N := some 67) (v := undef) (a' := ?_) #[true, true, true, true, true, true, true, true, true, true, true, true, true, true, true, true, true, true, true, true, true, true, true, false, false, false, false, false, false, false, false, false, false, false, false, false, false, false, false, false, false, false, false, false, false, false, false] rfl rfl (any_of HT_.out (by kernel_rfl)) (fun _ _ _ h => h) (Or.inr ⟨by rfl, rfl⟩) ?_ ?_
           rotate_left
           ·simp only [Act.put, List.setIfInBounds_toArray, List.set_cons_zero, List.set_cons_succ, i64_w, i32_w]
            rfl
           refine pure_ (i := 23) (N := some 68) (v := undef) (a' := ?_) #[true, true, true, true, true, true, true, true, true, true, true, true, true, true, true, true, true, true, true, true, true, true, true, true, false, false, false, false, false, false, false, false, false, false, false, false, false, false, false, false, false, false, false, false, false, false, false] rfl rfl (any_of HT_.out (by kernel_rfl)) (fun _ _ _ h => h) (Or.inr ⟨by rfl, rfl⟩) ?_ ?_
           rotate_left
           ·simp only [Act.put, List.setIfInBounds_toArray, List.set_cons_zero, List.set_cons_succ, i64_w, i32_w]
            rfl
           refine pure_ (i := 24) (N := some 69) (v := undef) (a' := ?_) #[true, true, true, true, true, true, true, true, true, true, true, true, true, true, true, true, true, true, true, true, true, true, true, true, true, false, false, false, false, false, false, false, false, false, false, false, false, false, false, false, false, false, false, false, false, false, false] rfl rfl (any_of HT_.out (by kernel_rfl)) (fun _ _ _ h => h) (Or.inr ⟨by rfl, rfl⟩) ?_ ?_
           rotate_left
           ·simp only [Act.put, List.setIfInBounds_toArray, List.set_cons_zero, List.set_cons_succ, i64_w, i32_w]
            rfl
           refine pure_ (i := 25) (N := some 70) (v := undef) (a' := ?_) #[true, true, true, true, true, true, true, true, true, true, true, true, true, true, true, true, true, true, true, true, true, true, true, true, true, true, false, false, false, false, false, false, false, false, false, false, false, false, false, false, false, false, false, false, false, false, false] rfl rfl (any_of HT_.out (by kernel_rfl)) (fun _ _ _ h => h) (Or.inr ⟨by rfl, rfl⟩) ?_ ?_
           rotate_left
           ·simp only [Act.put, List.setIfInBounds_toArray, List.set_cons_zero, List.set_cons_succ, i64_w, i32_w]
            rfl
           refine pure_ (i := 26) (N := some 71) (v := undef) (a' := ?_) #[true, true, true, true, true, true, true, true, true, true, true, true, true, true, true, true, true, true, true, true, true, true, true, true, true, true, true, false, false, false, false, false, false, false, false, false, false, false, false, false, false, false, false, false, false, false, false] rfl rfl (any_of HT_.out (by kernel_rfl)) (fun _ _ _ h => h) (Or.inr ⟨by rfl, rfl⟩) ?_ ?_
           rotate_left
           ·simp only [Act.put, List.setIfInBounds_toArray, List.set_cons_zero, List.set_cons_succ, i64_w, i32_w]
            rfl
           refine pr 27 72 HT_ ?_
           refine pr 28 73 HT_ ?_
           refine pure_ (i := 29) (N := some 74) (v := undef) (a' := ?_) #[true, true, true, true, true, true, true, true, true, true, true, true, true, true, true, true, true, true, true, true, true, true, true, true, true, true, true, true, true, true, false, false, false, false, false, false, false, false, false, false, false, false, false, false, false, false, false] rfl rfl (any_of HT_.out (by kernel_rfl)) (fun _ _ _ h => h) (Or.inr ⟨by rfl, rfl⟩) ?_ ?_
           rotate_left
           ·simp only [Act.put, List.setIfInBounds_toArray, List.set_cons_zero, List.set_cons_succ, i64_w, i32_w]
            rfl
           refine pure_ (i := 30) (N := some 75) (v := undef) (a' := ?_) #[true, true, true, true, true, true, true, true, true, true, true, true, true, true, true, true, true, true, true, true, true, true, true, true, true, true, true, true, true, true, true, false, false, false, false, false, false, false, false, false, false, false, false, false, false, false, false] rfl rfl (any_of HT_.out (by kernel_rfl)) (fun _ _ _ h => h) (Or.inr ⟨by rfl, rfl⟩) ?_ ?_
           rotate_left
           ·simp only [Act.put, List.setIfInBounds_toArray, List.set_cons_zero, List.set_cons_succ, i64_w, i32_w]
            rfl
           refine pure_ (i := 31) (N := some 76) (v := undef) (a' := ?_) #[true, true, true, true, true, true, true, true, true, true, true, true, true, true, true, true, true, true, true, true, true, true, true, true, true, true, true, true, true, true, true, true, false, false, false, false, false, false, false, false, false, false, false, false, false, false, false] rfl rfl (any_of HT_.out (by kernel_rfl)) (fun _ _ _ h => h) (Or.inr ⟨by rfl, rfl⟩) ?_ ?_
           rotate_left
           ·simp only [Act.put, List.setIfInBounds_toArray, List.set_cons_zero, List.set_cons_succ, i64_w, i32_w]
            rfl
           refine pure_ (i := 32) (N := some 77) (v := undef) (a' := ?_) #[true, true, true, true, true, true, true, true, true, true, true, true, true, true, true, true, true, true, true, true, true, true, true, true, true, true, true, true, true, true, true, true, true, false, false, false, false, false, false, false, false, false, false, false, false, false, false] rfl rfl (any_of HT_.out (by kernel_rfl)) (fun _ _ _ h => h) (Or.inr ⟨by rfl, rfl⟩) ?_ ?_
           rotate_left
           ·simp only [Act.put, List.setIfInBounds_toArray, List.set_cons_zero, List.set_cons_succ, i64_w, i32_w]
            rfl
           refine pure_ (i := 33) (N := some 78) (v := undef) (a' := ?_) #[true, true, true, true, true, true, true, true, true, true, true, true, true, true, true, true, true, true, true, true, true, true, true, true, true, true, true, true, true, true, true, true, true, true, false, false, false, false, false, false, false, false, false, false, false, false, false] rfl rfl (any_of HT_.out (by kernel_rfl)) (fun _ _ _ h => h) (Or.inr ⟨by rfl, rfl⟩) ?_ ?_
           rotate_left
           ·simp only [Act.put, List.setIfInBounds_toArray, List.set_cons_zero, List.set_cons_succ, i64_w, i32_w]
            rfl
           refine pure_ (i := 34) (N := some 79) (v := undef) (a' := ?_) #[true, true, true, true, true, true, true, true, true, true, true, true, true, true, true, true, true, true, true, true, true, true, true, true, true, true, true, true, true, true, true, true, true, true, true, false, false, false, false, false, false, false, false, false, false, false, false] rfl rfl (any_of HT_.out (by kernel_rfl)) (fun _ _ _ h => h) (Or.inr ⟨by rfl, rfl⟩) ?_ ?_
           rotate_left
           ·simp only [Act.put, List.setIfInBounds_toArray, List.set_cons_zero, List.set_cons_succ, i64_w, i32_w]
            rfl
           refine pure_ (i := 35) (N := some 80) (v := undef) (a' := ?_) #[true, true, true, true, true, true, true, true, true, true, true, true, true, true, true, true, true, true, true, true, true, true, true, true, true, true, true, true, true, true, true, true, true, true, true, true, false, false, false, false, false, false, false, false, false, false, false] rfl rfl (any_of HT_.out (by kernel_rfl)) (fun _ _ _ h => h) (Or.inr ⟨by rfl, rfl⟩) ?_ ?_
           rotate_left
           ·simp only [Act.put, List.setIfInBounds_toArray, List.set_cons_zero, List.set_cons_succ, i64_w, i32_w]
            rfl
           refine pure_ (i := 36) (N := some 81) (v := undef) (a' := ?_) #[true, true, true, true, true, true, true, true, true, true, true, true, true, true, true, true, true, true, true, true, true, true, true, true, true, true, true, true, true, true, true, true, true, true, true, true, true, false, false, false, false, false, false, false, false, false, false] rfl rfl (any_of HT_.out (by kernel_rfl)) (fun _ _ _ h => h) (Or.inr ⟨by rfl, rfl⟩) ?_ ?_
           rotate_left
           ·simp only [Act.put, List.setIfInBounds_toArray, List.set_cons_zero, List.set_cons_succ, i64_w, i32_w]
            rfl
           refine pure_ (i := 37) (N := some 82) (v := undef) (a' := ?_) #[true, true, true, true, true, true, true, true, true, true, true, true, true, true, true, true, true, true, true, true, true, true, true, true, true, true, true, true, true, true, true, true, true, true, true, true, true, true, false, false, false, false, false, false, false, false, false] rfl rfl (any_of HT_.out (by kernel_rfl)) (fun _ _ _ h => h) (Or.inr ⟨by rfl, rfl⟩) ?_ ?_
           rotate_left
           ·simp only [Act.put, List.setIfInBounds_toArray, List.set_cons_zero, List.set_cons_succ, i64_w, i32_w]
            rfl
           refine pure_ (i := 38) (N := some 83) (v := undef) (a' := ?_) #[true, true, true, true, true, true, true, true, true, true, true, true, true, true, true, true, true, true, true, true, true, true, true, true, true, true, true, true, true, true, true, true, true, true, true, true, true, true, true, false, false, false, false, false, false, false, false] rfl rfl (any_of HT_.out (by kernel_rfl)) (fun _ _ _ h => h) (Or.inr ⟨by rfl, rfl⟩) ?_ ?_
           rotate_left
           ·simp only [Act.put, List.setIfInBounds_toArray, List.set_cons_zero, List.set_cons_succ, i64_w, i32_w]
            rfl
           refine pure_ (i := 39) (N := some 84) (v := undef) (a' := ?_) #[true, true, true, true, true, true, true, true, true, true, true, true, true, true, true, true, true, true, true, true, true, true, true, true, true, true, true, true, true, true, true, true, true, true, true, true, true, true, true, true, false, false, false, false, false, false, false] rfl rfl (any_of HT_.out (by kernel_rfl)) (fun _ _ _ h => h) (Or.inr ⟨by rfl, rfl⟩) ?_ ?_
           rotate_left
           ·simp only [Act.put, List.setIfInBounds_toArray, List.set_cons_zero, List.set_cons_succ, i64_w, i32_w]
            rfl
           refine pure_ (i := 40) (N := some 85) (v := undef) (a' := ?_) #[true, true, true, true, true, true, true, true, true, true, true, true, true, true, true, true, true, true, true, true, true, true, true, true, true, true, true, true, true, true, true, true, true, true, true, true, true, true, true, true, true, false, false, false, false, false, false] rfl rfl (any_of HT_.out (by kernel_rfl)) (fun _ _ _ h => h) (Or.inr ⟨by rfl, rfl⟩) ?_ ?_
           rotate_left
           ·simp only [Act.put, List.setIfInBounds_toArray, List.set_cons_zero, List.set_cons_succ, i64_w, i32_w]
            rfl
           refine pure_ (i := 41) (N := some 86) (v := undef) (a' := ?_) #[true, true, true, true, true, true, true, true, true, true, true, true, true, true, true, true, true, true, true, true, true, true, true, true, true, true, true, true, true, true, true, true, true, true, true, true, true, true, true, true, true, true, false, false, false, false, false] rfl rfl (any_of HT_.out (by kernel_rfl)) (fun _ _ _ h => h) (Or.inr ⟨by rfl, rfl⟩) ?_ ?_
           rotate_left
           ·simp only [Act.put, List.setIfInBounds_toArray, List.set_cons_zero, List.set_cons_succ, i64_w, i32_w]
            rfl
           refine pure_ (i := 42) (N := some 87) (v := undef) (a' := ?_) #[true, true, true, true, true, true, true, true, true, true, true, true, true, true, true, true, true, true, true, true, true, true, true, true, true, true, true, true, true, true, true, true, true, true, true, true, true, true, true, true, true, true, true, false, false, false, false] rfl rfl (any_of HT_.out (by kernel_rfl)) (fun _ _ _ h => h) (Or.inr ⟨by rfl, rfl⟩) ?_ ?_
           rotate_left
           ·simp only [Act.put, List.setIfInBounds_toArray, List.set_cons_zero, List.set_cons_succ, i64_w, i32_w]
            rfl
           refine pure_ (i := 43) (N := some 88) (v := undef) (a' := ?_) #[true, true, true, true, true, true, true, true, true, true, true, true, true, true, true, true, true, true, true, true, true, true, true, true, true, true, true, true, true, true, true, true, true, true, true, true, true, true, true, true, true, true, true, true, false, false, false] rfl rfl (any_of HT_.out (by kernel_rfl)) (fun _ _ _ h => h) (Or.inr ⟨by rfl, rfl⟩) ?_ ?_
           rotate_left
           ·simp only [Act.put, List.setIfInBounds_toArray, List.set_cons_zero, List.set_cons_succ, i64_w, i32_w]
            rfl
           refine pure_ (i := 44) (N := some 89) (v := undef) (a' := ?_) #[true, true, true, true, true, true, true, true, true, true, true, true, true, true, true, true, true, true, true, true, true, true, true, true, true, true, true, true, true, true, true, true, true, true, true, true, true, true, true, true, true, true, true, true, true, false, false] rfl rfl (any_of HT_.out (by kernel_rfl)) (fun _ _ _ h => h) (Or.inr ⟨by rfl, rfl⟩) ?_ ?_
           rotate_left
           ·simp only [Act.put, List.setIfInBounds_toArray, List.set_cons_zero, List.set_cons_succ, i64_w, i32_w]
            rfl
           refine pure_ (i := 45) (N := some 90) (v := undef) (a' := ?_) #[true, true, true, true, true, true, true, true, true, true, true, true, true, true, true, true, true, true, true, true, true, true, true, true, true, true, true, true, true, true, true, true, true, true, true, true, true, true, true, true, true, true, true, true, true, true, false] rfl rfl (any_of HT_.out (by kernel_rfl)) (fun _ _ _ h => h) (Or.inr ⟨by rfl, rfl⟩) ?_ ?_
           rotate_left
           ·simp only [Act.put, List.setIfInBounds_toArray, List.set_cons_zero, List.set_cons_succ, i64_w, i32_w]
            rfl
           refine pr 46 91 HT_ ?_
           refine dn HT_ ?_
           try go_wp2
           go_meet
           case rel => exact ⟨_, (true), (by first | rfl | (simp; done) | (simp [*]; done)), H', ⟨by have := HK1.out; have := HK2.out; first | omega | exact Nat.le_refl _⟩, ⟨nl HO_7⟩, ⟨rl HO_8⟩, ⟨bl HB⟩⟩
         ·rw [if_neg c15] at H
          exact absurd H (by simp)
        case rest =>
         clear HC14
         try clear c1
         try clear p2
         try clear p3
         try clear q3
         try clear hx3
         try clear c5
         try clear p6
         try clear c15
         try clear c17
         try clear hx304_0
         try clear hx304_1
         try clear p304
         try clear q304
         obtain ⟨kq, x91_13, rfl, HA, HJ13, HO_7, HO_8, HB⟩ := hcut
         cases kq with
         | zero => exact absurd HA.out (by simp [gampref04_Tree.j2])
         | succ kj13 =>
          have H := HA.out
          clear HA
          simp only [gampref04_Tree.j2] at H
          by_cases c28 : x91_13 = true
          ·subst c28
           have H1 : (some false) = some r := by rw [if_pos rfl] at H; exact H
           clear H
           have H := H1
           clear H1
           obtain rfl := Option.some.inj H
           go_wp2
           go_ret
           exact ⟨by first | rfl | (simp [errW_none, errW_some] <;> rfl) | (simp [*, errW_none, errW_some] <;> rfl), by repeat (first | (with_reducible first | exact HB.out | apply below_alloc | apply pw_below_drewN | apply below_drew1) | exact HB.out)⟩
          ·replace c28 := Bool.eq_false_iff.mpr c28
           subst c28
           have H1 : (if 0 ≤ x10_2 then (if x10_2 < (l2.length : Int) then (if 0 ≤ ((rd_T52 l2 x10_2).f0) then (if ((rd_T52 l2 x10_2).f0) < (x8_2.length : Int) then (if 0 ≤ ((rd_T52 l2 x10_2).f1) then (if ((rd_T52 l2 x10_2).f1) < (x8_2.length : Int) then (gampref04_Tree.l2 kj13 a0 l2 t295 x8_2 x10_2 (rd x8_2 ((rd_T52 l2 x10_2).f0)) (rd x8_2 ((rd_T52 l2 x10_2).f1)) 0) else (none)) else (none)) else (none)) else (none)) else (none)) else (none)) = some r := by rw [if_neg (show ¬ (false = true) by decide)] at H; exact H
           clear H
           have H := H1
           clear H1
           by_cases c29 : 0 ≤ x10_2
           ·rw [if_pos c29] at H
            have c29b0 : decide (0 ≤ x10_2) = true := decide_eq_true c29
            clear c29
            by_cases c30 : x10_2 < (l2.length : Int)
            ·rw [if_pos c30] at H
             have c30b0 : decide (x10_2 < (l2.length : Int)) = true := decide_eq_true c30
             clear c30
             by_cases c31 : 0 ≤ ((rd_T52 l2 x10_2).f0)
             ·rw [if_pos c31] at H
              have c31b0 : decide (0 ≤ ((rd_T52 l2 x10_2).f0)) = true := decide_eq_true c31
              clear c31
              by_cases c32 : ((rd_T52 l2 x10_2).f0) < (x8_2.length : Int)
              ·rw [if_pos c32] at H
               have c32b0 : decide (((rd_T52 l2 x10_2).f0) < (x8_2.length : Int)) = true := decide_eq_true c32
               clear c32
               by_cases c33 : 0 ≤ ((rd_T52 l2 x10_2).f1)
               ·rw [if_pos c33] at H
                have c33b0 : decide (0 ≤ ((rd_T52 l2 x10_2).f1)) = true := decide_eq_true c33
                clear c33
                by_cases c34 : ((rd_T52 l2 x10_2).f1) < (x8_2.length : Int)
                ·rw [if_pos c34] at H
                 have c34b0 : decide (((rd_T52 l2 x10_2).f1) < (x8_2.length : Int)) = true := decide_eq_true c34
                 clear c34
                 have H' := Aside0.mk H
                 clear H
                 try go_wp2
                 have n0_ := Aside0.mk (Kd.N_drew HO_7.out)
                 have n1_ := Aside0.mk (Kd.R_drew HO_8.out)
                 have n2_ := Aside0.mk (below_drew1 HB.out)
                 clear HO_7 HO_8 HB
                 have HO_7 := n0_; have HO_8 := n1_; have HB := n2_
                 clear n0_ n1_ n2_
                 have p313 : 0 ≤ (x10_2 : Int) := ofd
                 have q313 : x10_2 < (l2.length : Int) := ofd
                 obtain ⟨ad313, e313, hx313_0, hx313_1⟩ := at_T52 HR2.out x10_2 p313 q313
                 have hw313_1 := hx313_1; have hw313_0 := hx313_0
                 cases e313
                 replace hx313_0 := (HB.out.cell (World.block_lt_of_cell? w _ hx313_0)).trans hx313_0
                 replace hx313_1 := (HB.out.cell (World.block_lt_of_cell? w _ hx313_1)).trans hx313_1
                 replace p313 := eq_true p313
                 replace q313 := eq_true q313
                 obtain ⟨Ao36, co36, eo36⟩ := Kd.R_slice HO_8.out
                 (first | subst eo36 | (injection eo36 with f1_ f2_ f3_; have f4_ := f1_.symm; have f5_ := f3_.symm; clear f1_ f2_ f3_; subst f4_; subst f5_))
                 have p314 : 0 ≤ (((rd_T52 l2 x10_2).f0) : Int) := ofd
                 have q314 : ((rd_T52 l2 x10_2).f0) < (x8_2.length : Int) := ofd
                 obtain ⟨ad314, e314, hx314_0⟩ := Kd.at_int (Kd.R_reads' HO_8.out).2.2 ((rd_T52 l2 x10_2).f0) p314 q314
                 cases e314
                 replace p314 := eq_true p314
                 replace q314 := eq_true q314
                 have p315 : 0 ≤ (x10_2 : Int) := ofd
                 have q315 : x10_2 < (l2.length : Int) := ofd
                 obtain ⟨ad315, e315, hx315_0, hx315_1⟩ := at_T52 HR2.out x10_2 p315 q315
                 have hw315_1 := hx315_1; have hw315_0 := hx315_0
                 obtain rfl : ad313 = ad315 := (by injection e315)
                 replace hx315_0 := (HB.out.cell (World.block_lt_of_cell? w _ hx315_0)).trans hx315_0
                 replace hx315_1 := (HB.out.cell (World.block_lt_of_cell? w _ hx315_1)).trans hx315_1
                 replace p315 := eq_true p315
                 replace q315 := eq_true q315
                 have p316 : 0 ≤ (((rd_T52 l2 x10_2).f1) : Int) := ofd
                 have q316 : ((rd_T52 l2 x10_2).f1) < (x8_2.length : Int) := ofd
                 obtain ⟨ad316, e316, hx316_0⟩ := Kd.at_int (Kd.R_reads' HO_8.out).2.2 ((rd_T52 l2 x10_2).f1) p316 q316
                 obtain rfl : ad314 = ad316 := (by injection e316)
                 replace p316 := eq_true p316
                 replace q316 := eq_true q316
                 refine start_ (n := 18) (S := fun w' => w'.cell? (ad313.add ((x10_2).toNat * 2)) = some (.int .i64 ((rd_T52 l2 x10_2).f0)) ∧ w'.cell? ⟨(ad313.add ((x10_2).toNat * 2)).block, (ad313.add ((x10_2).toNat * 2)).off + 1, none⟩ = some (.int .i64 ((rd_T52 l2 x10_2).f1)) ∧ w'.cell? (ad314.add (((rd_T52 l2 x10_2).f0)).toNat) = some (.int .i64 (rd x8_2 ((rd_T52 l2 x10_2).f0))) ∧ w'.cell? (ad313.add ((x10_2).toNat * 2)) = some (.int .i64 ((rd_T52 l2 x10_2).f0)) ∧ w'.cell? ⟨(ad313.add ((x10_2).toNat * 2)).block, (ad313.add ((x10_2).toNat * 2)).off + 1, none⟩ = some (.int .i64 ((rd_T52 l2 x10_2).f1)) ∧ w'.cell? (ad314.add (((rd_T52 l2 x10_2).f1)).toNat) = some (.int .i64 (rd x8_2 ((rd_T52 l2 x10_2).f1)))) (ds := []) #[false, false, false, false, false, false, false, false, false, false, false, false, false, false, false, false, false, false] (by kernel_rfl) rfl rfl ⟨((HB.out.cell (World.block_lt_of_cell? w _ hw313_0)).trans hw313_0), ((HB.out.cell (World.block_lt_of_cell? w _ hw313_1)).trans hw313_1), hx314_0, ((HB.out.cell (World.block_lt_of_cell? w _ hw315_0)).trans hw315_0), ((HB.out.cell (World.block_lt_of_cell? w _ hw315_1)).trans hw315_1), hx316_0⟩ (fun hHeld => ?_); refine with_tabW gampref04_Tree.tab14 gampref04_Tree.bits14 (fun HT_ HW_ => ?_)
                 generalize wc.drew = w35 at HO_7 HO_8 HB hx313_0 hx313_1 hx314_0 hx315_0 hx315_1 hx316_0 hHeld ⊢
                 refine pr 0 92 HT_ ?_
                 refine pr 1 93 HT_ ?_
                 refine pr 2 94 HT_ ?_
                 refine pr 3 95 HT_ ?_
                 refine pr 4 96 HT_ ?_
                 refine pr 8 100 HT_ ?_
                 refine pr 9 101 HT_ ?_
                 refine pr 10 102 HT_ ?_
                 refine pr 11 103 HT_ ?_
                 refine pr 12 104 HT_ ?_
                 refine tr 5 97 HT_ HW_ hHeld ?_
                 refine pr 6 98 HT_ ?_
                 refine tr 7 99 HT_ HW_ hHeld ?_
                 refine pr 16 11 HT_ ?_
                 refine tr 13 105 HT_ HW_ hHeld ?_
                 refine pr 14 106 HT_ ?_
                 refine tr 15 107 HT_ HW_ hHeld ?_
                 refine pr 17 12 HT_ ?_
                 refine dn HT_ ?_
                 try go_wp2
                 obtain ⟨go41, cz41, ez41, _, _, _, _⟩ := Kd.R_form HO_8.out (by have a_ := of_eq_true p314; have b_ := of_eq_true q314; omega)
                 (injection ez41 with ea_ en_ ec_; injection ea_ with ea_; subst ea_; clear en_ ec_)
                 (try simp only [add_plain] at *)
                 go_loopg [13] kj13 (fun kq v13 w' => ∃ (x8_4 : List Int) (x13_4 : Int), v13 = .int .i64 x13_4 ∧ Aside0 (gampref04_Tree.l2 kq a0 l2 t295 x8_4 x10_2 (rd x8_2 ((rd_T52 l2 x10_2).f0)) (rd x8_2 ((rd_T52 l2 x10_2).f1)) x13_4 = some r) ∧ Aside0 (kq ≤ kj13) ∧ Aside0 (Kd.N (Kd.slice 3 (Kd.int .i64)) 34 w' w.heap.size (fun k_ => some k_ ≠ ((.slice (some (⟨go41, 0, none⟩ : Addr)) x8_2.length co36) : Value).ownBlock) (.slice Ao7 t295.length co7) t295) ∧ Aside0 (Kd.R (Kd.int .i64) 3 w' w.heap.size (fun _ => True) (.slice (some (⟨go41, 0, none⟩ : Addr)) x8_2.length co36) x8_4) ∧ Aside0 (Below w.heap.size w w'))
                 case atStart => exact ⟨(x8_2), (0), (by first | rfl | (simp; done) | (simp [*]; done)), H', ⟨Nat.le_refl _⟩, ⟨nl HO_7⟩, ⟨rl HO_8⟩, ⟨bl HB⟩⟩
                 case round =>
                  clear H'
                  try clear c1
                  try clear c2
                  try clear p2
                  try clear c3
                  try clear p3
                  try clear q3
                  try clear hx3
                  try clear c5
                  try clear p6
                  try clear c15
                  try clear c17
                  try clear c28
                  try clear c29
                  try clear c29b0
                  try clear c30
                  try clear c30b0
                  try clear p30
                  try clear q30
                  try clear hx30
                  try clear c31
                  try clear c31b0
                  try clear p31
                  try clear q31
                  try clear hx31
                  try clear c32
                  try clear c32b0
                  try clear c33
                  try clear c33b0
                  try clear c34
                  try clear c34b0
                  try clear hx304_0
                  try clear hx304_1
                  try clear hx313_0
                  try clear hx313_1
                  try clear hx314_0
                  try clear hx315_0
                  try clear hx315_1
                  try clear hx316_0
                  try clear p2
                  try clear p3
                  try clear p304
                  try clear p313
                  try clear p314
                  try clear p315
                  try clear p316
                  try clear p6
                  try clear q3
                  try clear q304
                  try clear q313
                  try clear q314
                  try clear q315
                  try clear q316
                  obtain ⟨x8_4, x13_4, rfl, HA, HK4, HO_7, HO_8, HB⟩ := hrel
                  have hl8_4 := (Kd.R_reads' HO_8.out).1
                  rw [hl8_4] at HO_8
                  (try simp only [hl8_4])
                  (try simp only [hl8_4] at HO_7)
                  cases gk with
                  | zero => exact absurd HA.out (by simp [gampref04_Tree.l2])
                  | succ k4 =>
                   have H := HA.out
                   clear HA
                   simp only [gampref04_Tree.l2] at H
                   by_cases c37 : x13_4 < (t295.length : Int)
                   ·rw [if_pos c37] at H
                    have c37b0 : decide (x13_4 < (t295.length : Int)) = true := decide_eq_true c37
                    clear c37
                    by_cases c38 : 0 ≤ x13_4
                    ·rw [if_pos c38] at H
                     have c38b0 : decide (0 ≤ x13_4) = true := decide_eq_true c38
                     clear c38
                     by_cases c39 : x13_4 < (x8_4.length : Int)
                     ·rw [if_pos c39] at H
                      have c39b0 : decide (x13_4 < (x8_4.length : Int)) = true := decide_eq_true c39
                      clear c39
                      by_cases c40 : (rd x8_4 x13_4) = (rd x8_2 ((rd_T52 l2 x10_2).f0))
                      ·rw [if_pos c40] at H
                       have c40b0 : ((rd x8_4 x13_4) == (rd x8_2 ((rd_T52 l2 x10_2).f0))) = true := beq_iff_eq.mpr c40
                       have c40b1 : ((rd x8_4 x13_4) != (rd x8_2 ((rd_T52 l2 x10_2).f0))) = false := bne_eq_false_iff_eq.mpr c40
                       clear c40
                       obtain ⟨y318, hy318⟩ : ∃ y_ : List Int, y_ = (x8_4.set (x13_4 : Int).toNat (rd x8_2 ((rd_T52 l2 x10_2).f1))) := ⟨_, rfl⟩
                       replace H : (gampref04_Tree.l2 k4 a0 l2 t295 y318 x10_2 (rd x8_2 ((rd_T52 l2 x10_2).f0)) (rd x8_2 ((rd_T52 l2 x10_2).f1)) (wrap64 (x13_4 + 1))) = some r := by first | (rw [hy318]; with_reducible exact H) | (have H2_ := (Option.bind_some _ _).symm.trans H; rw [hy318]; with_reducible exact H2_) | (have H2_ := (Option.bind_some _ _).symm.trans H; with_reducible exact H2_) | with_reducible exact H | (rw [hy318]; exact H) | exact H
                       have Ny318 := Aside0.mk hy318
                       clear hy318
                       have H' := Aside0.mk H
                       clear H
                       have p317 : 0 ≤ (x13_4 : Int) := ofd
                       have q317 : x13_4 < (x8_4.length : Int) := ofd
                       obtain ⟨ad317, e317, hx317_0⟩ := Kd.at_int (Kd.R_reads' HO_8.out).2.2 x13_4 p317 q317
                       obtain rfl : (⟨go41, 0, none⟩ : Addr) = ad317 := (by injection e317)
                       replace p317 := eq_true p317
                       replace q317 := eq_true q317
                       have p41 : 0 ≤ (x13_4 : Int) := ofd
                       have q41 : (x13_4 : Int) < ((x8_4.length : Int) : Int) := ofd
                       obtain ⟨gx41, cx41, eo41, gb41, gl41, cl41, HG41⟩ := Kd.R_form HO_8.out (by omega)
                       obtain ⟨rfl, rfl⟩ : go41 = gx41 ∧ co36 = cx41 := by (injection eo41 with ea_ en_ ec_; injection ea_ with ea_; injection ea_ with eb_; exact ⟨eb_, ec_⟩)
                       have GB41 := Aside0.mk gb41
                       have GG41 := Aside0.mk HG41
                       clear gb41 gl41 HG41
                       (first | simp only [add_plain] at hx314_0 | skip)
                       (first | simp only [add_plain] at hx316_0 | skip)
                       (first | simp only [add_plain] at hx317_0 | skip)
                       obtain ⟨hx41_0, hf41_0⟩ := Kd.R_celln 0 HO_8.out (x13_4 : Int) p41 q41
                       replace p41 := eq_true p41
                       replace q41 := eq_true q41
                       have HP42 := Kd.R_putg HO_8.out (x13_4 : Int) (rd x8_2 ((rd_T52 l2 x10_2).f1))
                       go_wp2_with (first | ((with_reducible refine gate_store (t := 3) (p := 123) rfl ?_); refine store_event (t := 3) (p := 123) (v := ?vo_w43) (w1 := (wr.setCell ⟨go41, (x13_4 : Int).toNat, none⟩ (.int .i64 (rd x8_2 ((rd_T52 l2 x10_2).f1))))) ?hg ?ho ?hn ?hr ?_; (case ho => rfl); (case hg => rfl); (case hn => rfl); (case hr => first | (go_simp; done) | (go_simp; rfl)); intro w43 hw; have hg : wr.grownBy w43 (some go41) := (by rw [hw]; exact HP42.2); have hp_ : Kd.R (Kd.int .i64) 3 w43 w.heap.size (fun _ => True) (.slice (some ⟨go41, 0, none⟩) x8_4.length co36) y318 := (by rw [hw, Ny318.out]; exact HP42.1); clear HP42; have n0_ := Aside0.mk (Kd.N_afterv (v := (.slice (some ⟨go41, 0, none⟩) x8_4.length co36)) (v1 := (.slice (some ⟨go41, 0, none⟩) x8_4.length co36)) (ok := (fun _ => True)) (by (with_reducible repeat (first | apply Kd.N_alloc | apply Kd.N_drewN | apply Kd.N_drew)); exact Kd.N_mono HO_7.out (fun _ hk => ⟨trivial, hk⟩)) hg (.inl rfl)); have n1_ := Aside0.mk (hp_); have n2_ := Aside0.mk ((by rw [hw]; exact below_set (HB.out) GB41.out : Below w.heap.size w w43)); clear HO_7; clear HO_8; clear HB; have HO_7 := n0_; have HO_8 := n1_; have HB := n2_; clear n0_ n1_ n2_; clear hg hw hp_))
                       (try simp only [← hl8_4])
                       go_roundg k4
                       case measure => have := HK1.out; have := HK2.out; have := HJ13.out; have := HK4.out; omega
                       case rel => exact ⟨(y318), (wrap64 (x13_4 + 1)), (by first | rfl | (simp; done) | (simp [*]; done)), H', ⟨by have := HK1.out; have := HK2.out; have := HJ13.out; have := HK4.out; omega⟩, ⟨by (try simp only [hl8_4]); (with_reducible repeat (first | apply Kd.N_alloc | apply Kd.N_drewN | apply Kd.N_drew)); exact Kd.N_mono HO_7.out (fun _ hk => hk.2)⟩, ⟨by (try simp only [hl8_4]); (with_reducible repeat (first | apply Kd.R_alloc | apply Kd.R_drewN | apply Kd.R_drew)); exact HO_8.out⟩, ⟨bl HB⟩⟩
                      ·rw [if_neg c40] at H
                       have c40b0 : ((rd x8_4 x13_4) == (rd x8_2 ((rd_T52 l2 x10_2).f0))) = false := beq_eq_false_iff_ne.mpr c40
                       have c40b1 : ((rd x8_4 x13_4) != (rd x8_2 ((rd_T52 l2 x10_2).f0))) = true := bne_iff_ne.mpr c40
                       have H' := Aside0.mk H
                       clear H
                       have p317 : 0 ≤ (x13_4 : Int) := ofd
                       have q317 : x13_4 < (x8_4.length : Int) := ofd
                       obtain ⟨ad317, e317, hx317_0⟩ := Kd.at_int (Kd.R_reads' HO_8.out).2.2 x13_4 p317 q317
                       obtain rfl : (⟨go41, 0, none⟩ : Addr) = ad317 := (by injection e317)
                       replace p317 := eq_true p317
                       replace q317 := eq_true q317
                       (try simp only [add_plain] at hx314_0 hx316_0)
                       (first | simp only [add_plain] at hx317_0 | skip)
                       go_wp2
                       (try simp only [← hl8_4])
                       go_roundg k4
                       case measure => have := HK1.out; have := HK2.out; have := HJ13.out; have := HK4.out; omega
                       case rel => exact ⟨(x8_4), (wrap64 (x13_4 + 1)), (by first | rfl | (simp; done) | (simp [*]; done)), H', ⟨by have := HK1.out; have := HK2.out; have := HJ13.out; have := HK4.out; omega⟩, ⟨by (try simp only [hl8_4]); (with_reducible repeat (first | apply Kd.N_alloc | apply Kd.N_drewN | apply Kd.N_drew)); exact HO_7.out⟩, ⟨by (try simp only [hl8_4]); (with_reducible repeat (first | apply Kd.R_alloc | apply Kd.R_drewN | apply Kd.R_drew)); exact HO_8.out⟩, ⟨bl HB⟩⟩
                     ·rw [if_neg c39] at H
                      exact absurd H (by simp)
                    ·rw [if_neg c38] at H
                     exact absurd H (by simp)
                   ·rw [if_neg c37] at H
                    have c37b0 : decide (x13_4 < (t295.length : Int)) = false := decide_eq_false c37
                    clear c37
                    have H' := Aside0.mk H
                    clear H
                    go_wp2
                    (try simp only [← hl8_4])
                    go_roundg k4
                    case measure => have := HK1.out; have := HK2.out; have := HJ13.out; have := HK4.out; omega
                    case rel => exact ⟨(x8_4), (wrap64 (x10_2 + 1)), (by first | rfl | (simp; done) | (simp [*]; done)), H', ⟨by have := HK1.out; have := HK2.out; have := HJ13.out; have := HK4.out; omega⟩, ⟨by (try simp only [hl8_4]); (with_reducible repeat (first | apply Kd.N_alloc | apply Kd.N_drewN | apply Kd.N_drew)); exact HO_7.out⟩, ⟨by (try simp only [hl8_4]); (with_reducible repeat (first | apply Kd.R_alloc | apply Kd.R_drewN | apply Kd.R_drew)); exact HO_8.out⟩, ⟨bl HB⟩⟩
                ·rw [if_neg c34] at H
                 exact absurd H (by simp)
               ·rw [if_neg c33] at H
                exact absurd H (by simp)
              ·rw [if_neg c32] at H
               exact absurd H (by simp)
             ·rw [if_neg c31] at H
              exact absurd H (by simp)
            ·rw [if_neg c30] at H
             exact absurd H (by simp)
           ·rw [if_neg c29] at H
            exact absurd H (by simp)
       ·rw [if_neg c13] at H
        have c13b0 : decide (x10_2 < (l2.length : Int)) = false := decide_eq_false c13
        clear c13
        have H' := Aside0.mk H
        clear H
        go_wp2
        go_loopg [14] k2 (fun kq v14 w' => ∃ (x14_3 : Int), v14 = .int .i64 x14_3 ∧ Aside0 (gampref04_Tree.l3 kq a0 l2 t295 x14_3 = some r) ∧ Aside0 (kq ≤ k2) ∧ Aside0 (Kd.N (Kd.slice 3 (Kd.int .i64)) 34 w' w.heap.size (fun _ => True) (.slice Ao7 t295.length co7) t295) ∧ Aside0 (Below w.heap.size w w'))
        case atStart => exact ⟨(0), (by first | rfl | (simp; done) | (simp [*]; done)), H', ⟨Nat.le_refl _⟩, ⟨by (with_reducible repeat (first | apply Kd.N_alloc | apply Kd.N_drewN | apply Kd.N_drew)); exact Kd.N_mono HO_7.out (fun _ hk => trivial)⟩, ⟨bl HB⟩⟩
        case round =>
         clear H'
         try clear c1
         try clear c2
         try clear p2
         try clear c3
         try clear p3
         try clear q3
         try clear hx3
         try clear c4
         try clear p4
         try clear q4
         try clear hx4
         try clear hf4
         try clear c5
         try clear p6
         try clear c13
         try clear c13b0
         try clear c15
         try clear c17
         try clear c28
         try clear c29
         try clear c29b0
         try clear c30
         try clear c30b0
         try clear p30
         try clear q30
         try clear hx30
         try clear c31
         try clear c31b0
         try clear p31
         try clear q31
         try clear hx31
         try clear c32
         try clear c32b0
         try clear c33
         try clear c33b0
         try clear c34
         try clear c34b0
         try clear c37
         try clear c37b0
         try clear c38
         try clear c38b0
         try clear c39
         try clear c39b0
         try clear c40
         try clear c40b0
         try clear c40b1
         try clear p41
         try clear q41
         try clear hx41
         try clear hf41
         try clear hx304_0
         try clear hx304_1
         try clear hx313_0
         try clear hx313_1
         try clear hx314_0
         try clear hx315_0
         try clear hx315_1
         try clear hx316_0
         try clear hx317_0
         try clear hx41_0
         try clear p2
         try clear p3
         try clear p30
         try clear p304
         try clear p31
         try clear p313
         try clear p314
         try clear p315
         try clear p316
         try clear p317
         try clear p41
         try clear p6
         try clear q3
         try clear q30
         try clear q304
         try clear q31
         try clear q313
         try clear q314
         try clear q315
         try clear q316
         try clear q317
         try clear q41
         obtain ⟨x14_3, rfl, HA, HK3, HO_7, HB⟩ := hrel
         cases gk with
         | zero => exact absurd HA.out (by simp [gampref04_Tree.l3])
         | succ k3 =>
          have H := HA.out
          clear HA
          simp only [gampref04_Tree.l3] at H
          by_cases c44 : x14_3 < a0
          ·rw [if_pos c44] at H
           have c44b0 : decide (x14_3 < a0) = true := decide_eq_true c44
           clear c44
           have H' := Aside0.mk H
           clear H
           go_wp2
           go_loopg [15, 17] k3 (fun kq v15 v17 w' => ∃ (x15_4 : Int) (x17_4 : Int), v15 = .int .i64 x15_4 ∧ v17 = .int .i64 x17_4 ∧ Aside0 (gampref04_Tree.l4 kq a0 l2 t295 x14_3 x15_4 0 x17_4 = some r) ∧ Aside0 (kq ≤ k3) ∧ Aside0 (Kd.N (Kd.slice 3 (Kd.int .i64)) 34 w' w.heap.size (fun _ => True) (.slice Ao7 t295.length co7) t295) ∧ Aside0 (Below w.heap.size w w'))
           case atStart => exact ⟨(0), (0), (by first | rfl | (simp; done) | (simp [*]; done)), (by first | rfl | (simp; done) | (simp [*]; done)), H', ⟨Nat.le_refl _⟩, ⟨nl HO_7⟩, ⟨bl HB⟩⟩
           case round =>
            clear H'
            try clear c1
            try clear c2
            try clear p2
            try clear c3
            try clear p3
            try clear q3
            try clear hx3
            try clear c4
            try clear p4
            try clear q4
            try clear hx4
            try clear hf4
            try clear c5
            try clear p6
            try clear c13
            try clear c13b0
            try clear c15
            try clear c17
            try clear c28
            try clear c29
            try clear c29b0
            try clear c30
            try clear c30b0
            try clear p30
            try clear q30
            try clear hx30
            try clear c31
            try clear c31b0
            try clear p31
            try clear q31
            try clear hx31
            try clear c32
            try clear c32b0
            try clear c33
            try clear c33b0
            try clear c34
            try clear c34b0
            try clear c37
            try clear c37b0
            try clear c38
            try clear c38b0
            try clear c39
            try clear c39b0
            try clear c40
            try clear c40b0
            try clear c40b1
            try clear p41
            try clear q41
            try clear hx41
            try clear hf41
            try clear c44
            try clear c44b0
            try clear hx304_0
            try clear hx304_1
            try clear hx313_0
            try clear hx313_1
            try clear hx314_0
            try clear hx315_0
            try clear hx315_1
            try clear hx316_0
            try clear hx317_0
            try clear hx41_0
            try clear p2
            try clear p3
            try clear p30
            try clear p304
            try clear p31
            try clear p313
            try clear p314
            try clear p315
            try clear p316
            try clear p317
            try clear p4
            try clear p41
            try clear p6
            try clear q3
            try clear q30
            try clear q304
            try clear q31
            try clear q313
            try clear q314
            try clear q315
            try clear q316
            try clear q317
            try clear q4
            try clear q41
            obtain ⟨x15_4, x17_4, rfl, rfl, HA, HK4, HO_7, HB⟩ := hrel
            cases gk with
            | zero => exact absurd HA.out (by simp [gampref04_Tree.l4])
            | succ k4 =>
             have H := HA.out
             clear HA
             simp only [gampref04_Tree.l4] at H
             by_cases c45 : x17_4 < (t295.length : Int)
             ·rw [if_pos c45] at H
              have c45b0 : decide (x17_4 < (t295.length : Int)) = true := decide_eq_true c45
              clear c45
              by_cases c46 : 0 ≤ x17_4
              ·rw [if_pos c46] at H
               have c46b0 : decide (0 ≤ x17_4) = true := decide_eq_true c46
               clear c46
               replace H := Option.bind_eq_some_iff.mp H
               obtain ⟨t320, A470, H⟩ := H
               replace H : (if t320 = true then (gampref04_Tree.l4 k4 a0 l2 t295 x14_3 (wrap64 (x15_4 + 1)) 0 (wrap64 (x17_4 + 1))) else (gampref04_Tree.l4 k4 a0 l2 t295 x14_3 x15_4 0 (wrap64 (x17_4 + 1)))) = some r := H
               have A47 := Aside0.mk A470
               clear A470
               by_cases c48 : t320 = true
               ·subst c48
                have H1 : (gampref04_Tree.l4 k4 a0 l2 t295 x14_3 (wrap64 (x15_4 + 1)) 0 (wrap64 (x17_4 + 1))) = some r := by rw [if_pos rfl] at H; exact H
                clear H
                have H := H1
                clear H1
                have H' := Aside0.mk H
                clear H
                have p319 : 0 ≤ (x17_4 : Int) := ofd
                have q319 : x17_4 < (t295.length : Int) := ofd
                obtain ⟨ad319, A319_0, c319_0, e319, hx319_0, hl319_0, hi319_0⟩ := at_L2 (Kd.N_reads' HO_7.out).2.2 x17_4 p319 q319
                cases e319
                obtain ⟨ce319, hce319, hMe319, hcc319⟩ := Kd.N_get HO_7.out [] x17_4 p319 (by first | exact q319 | exact ofd | (have e_ := (Kd.N_reads' HO_7.out).1; omega))
                obtain ⟨ua319_0, uc319_0, rfl, ul319_0, ge319_0⟩ := Kd.FK_slice_open hMe319
                have hv319_0 := hcc319 0 _ rfl
                rw [Nat.add_zero, show ((Kd.slice 3 (Kd.int .i64))).sz = 1 from rfl, Nat.mul_one] at hv319_0
                replace hv319_0 := Option.some.inj (hv319_0.symm.trans hx319_0)
                injection hv319_0 with hva_ hvn_ hvc_
                rw [hva_] at ge319_0
                rw [hvc_] at ul319_0
                have HL319_0 := Aside0.mk (show Kd.V (Kd.int .i64) 3 _ w.heap.size _ _ (rd_L2 t295 x17_4) from Kd.V_mk ul319_0 ge319_0)
                clear hva_ hvn_ hvc_ ge319_0 ul319_0 hcc319 hce319
                have HR319_0 := Aside0.mk hi319_0
                have HC319_0 := Aside0.mk hl319_0
                clear hi319_0 hl319_0
                replace p319 := eq_true p319
                replace q319 := eq_true q319
                go_wp2_with (first | ((with_reducible refine gate_callee (f := 38) rfl ?_); refine gL 140 Try.func38 #[.slice A319_0 (rd_L2 t295 x17_4).length c319_0, .int .i64 x14_3] ?_; (with_reducible refine (gampref04_Has.calls k4 _ _ (rd_L2 t295 x17_4) x14_3 true _ ?side1 ?side2 A47.out).mono ?_); (case side1 => exact cl (HR319_0.out)); (case side2 => exact HC319_0.out); rintro e w' ⟨rfl, ⟨nd, rfl⟩⟩; refine ⟨_, rfl, ?_⟩))
                go_roundg k4
                case measure => have := HK1.out; have := HK2.out; have := HK3.out; have := HK4.out; omega
                case rel => exact ⟨(wrap64 (x15_4 + 1)), (wrap64 (x17_4 + 1)), (by first | rfl | (simp; done) | (simp [*]; done)), (by first | rfl | (simp; done) | (simp [*]; done)), H', ⟨by have := HK1.out; have := HK2.out; have := HK3.out; have := HK4.out; omega⟩, ⟨nl HO_7⟩, ⟨bl HB⟩⟩
               ·replace c48 := Bool.eq_false_iff.mpr c48
                subst c48
                have H1 : (gampref04_Tree.l4 k4 a0 l2 t295 x14_3 x15_4 0 (wrap64 (x17_4 + 1))) = some r := by rw [if_neg (show ¬ (false = true) by decide)] at H; exact H
                clear H
                have H := H1
                clear H1
                have H' := Aside0.mk H
                clear H
                have p319 : 0 ≤ (x17_4 : Int) := ofd
                have q319 : x17_4 < (t295.length : Int) := ofd
                obtain ⟨ad319, A319_0, c319_0, e319, hx319_0, hl319_0, hi319_0⟩ := at_L2 (Kd.N_reads' HO_7.out).2.2 x17_4 p319 q319
                cases e319
                obtain ⟨ce319, hce319, hMe319, hcc319⟩ := Kd.N_get HO_7.out [] x17_4 p319 (by first | exact q319 | exact ofd | (have e_ := (Kd.N_reads' HO_7.out).1; omega))
                obtain ⟨ua319_0, uc319_0, rfl, ul319_0, ge319_0⟩ := Kd.FK_slice_open hMe319
                have hv319_0 := hcc319 0 _ rfl
                rw [Nat.add_zero, show ((Kd.slice 3 (Kd.int .i64))).sz = 1 from rfl, Nat.mul_one] at hv319_0
                replace hv319_0 := Option.some.inj (hv319_0.symm.trans hx319_0)
                injection hv319_0 with hva_ hvn_ hvc_
                rw [hva_] at ge319_0
                rw [hvc_] at ul319_0
                have HL319_0 := Aside0.mk (show Kd.V (Kd.int .i64) 3 _ w.heap.size _ _ (rd_L2 t295 x17_4) from Kd.V_mk ul319_0 ge319_0)
                clear hva_ hvn_ hvc_ ge319_0 ul319_0 hcc319 hce319
                have HR319_0 := Aside0.mk hi319_0
                have HC319_0 := Aside0.mk hl319_0
                clear hi319_0 hl319_0
                replace p319 := eq_true p319
                replace q319 := eq_true q319
                go_wp2_with (first | ((with_reducible refine gate_callee (f := 38) rfl ?_); refine gL 140 Try.func38 #[.slice A319_0 (rd_L2 t295 x17_4).length c319_0, .int .i64 x14_3] ?_; (with_reducible refine (gampref04_Has.calls k4 _ _ (rd_L2 t295 x17_4) x14_3 false _ ?side1 ?side2 A47.out).mono ?_); (case side1 => exact cl (HR319_0.out)); (case side2 => exact HC319_0.out); rintro e w' ⟨rfl, ⟨nd, rfl⟩⟩; refine ⟨_, rfl, ?_⟩))
                go_roundg k4
                case measure => have := HK1.out; have := HK2.out; have := HK3.out; have := HK4.out; omega
                case rel => exact ⟨(x15_4), (wrap64 (x17_4 + 1)), (by first | rfl | (simp; done) | (simp [*]; done)), (by first | rfl | (simp; done) | (simp [*]; done)), H', ⟨by have := HK1.out; have := HK2.out; have := HK3.out; have := HK4.out; omega⟩, ⟨nl HO_7⟩, ⟨bl HB⟩⟩
              ·rw [if_neg c46] at H
               exact absurd H (by simp)
             ·rw [if_neg c45] at H
              have c45b0 : decide (x17_4 < (t295.length : Int)) = false := decide_eq_false c45
              clear c45
              have H' := Aside0.mk H
              clear H
              go_wp2
              go_loopg [16, 18] k4 (fun kq v16 v18 w' => ∃ (x16_5 : Int) (x18_5 : Int), v16 = .int .i64 x16_5 ∧ v18 = .int .i64 x18_5 ∧ Aside0 (gampref04_Tree.l5 kq a0 l2 t295 x14_3 x15_4 x16_5 x18_5 = some r) ∧ Aside0 (kq ≤ k4) ∧ Aside0 (Kd.N (Kd.slice 3 (Kd.int .i64)) 34 w' w.heap.size (fun _ => True) (.slice Ao7 t295.length co7) t295) ∧ Aside0 (Below w.heap.size w w'))
              case atStart => exact ⟨(0), (0), (by first | rfl | (simp; done) | (simp [*]; done)), (by first | rfl | (simp; done) | (simp [*]; done)), H', ⟨Nat.le_refl _⟩, ⟨nl HO_7⟩, ⟨bl HB⟩⟩
              case round =>
               clear H'
               try clear c1
               try clear c2
               try clear p2
               try clear c3
               try clear p3
               try clear q3
               try clear hx3
               try clear c4
               try clear p4
               try clear q4
               try clear hx4
               try clear hf4
               try clear c5
               try clear p6
               try clear c13
               try clear c13b0
               try clear c15
               try clear c17
               try clear c28
               try clear c29
               try clear c29b0
               try clear c30
               try clear c30b0
               try clear p30
               try clear q30
               try clear hx30
               try clear c31
               try clear c31b0
               try clear p31
               try clear q31
               try clear hx31
               try clear c32
               try clear c32b0
               try clear c33
               try clear c33b0
               try clear c34
               try clear c34b0
               try clear c37
               try clear c37b0
               try clear c38
               try clear c38b0
               try clear c39
               try clear c39b0
               try clear c40
               try clear c40b0
               try clear c40b1
               try clear p41
               try clear q41
               try clear hx41
               try clear hf41
               try clear c44
               try clear c44b0
               try clear c45
               try clear c45b0
               try clear c46
               try clear c46b0
               try clear c48
               try clear hx304_0
               try clear hx304_1
               try clear hx313_0
               try clear hx313_1
               try clear hx314_0
               try clear hx315_0
               try clear hx315_1
               try clear hx316_0
               try clear hx317_0
               try clear hx319_0
               try clear hx41_0
               try clear p2
               try clear p3
               try clear p30
               try clear p304
               try clear p31
               try clear p313
               try clear p314
               try clear p315
               try clear p316
               try clear p317
               try clear p319
               try clear p4
               try clear p41
               try clear p6
               try clear q3
               try clear q30
               try clear q304
               try clear q31
               try clear q313
               try clear q314
               try clear q315
               try clear q316
               try clear q317
               try clear q319
               try clear q4
               try clear q41
               obtain ⟨x16_5, x18_5, rfl, rfl, HA, HK5, HO_7, HB⟩ := hrel
               cases gk with
               | zero => exact absurd HA.out (by simp [gampref04_Tree.l5])
               | succ k5 =>
                have H := HA.out
                clear HA
                simp only [gampref04_Tree.l5] at H
                by_cases c49 : x18_5 < (l2.length : Int)
                ·rw [if_pos c49] at H
                 have c49b0 : decide (x18_5 < (l2.length : Int)) = true := decide_eq_true c49
                 clear c49
                 by_cases c50 : 0 ≤ x18_5
                 ·rw [if_pos c50] at H
                  have c50b0 : decide (0 ≤ x18_5) = true := decide_eq_true c50
                  clear c50
                  by_cases c51 : 0 ≤ ((rd_T52 l2 x18_5).f0)
                  ·rw [if_pos c51] at H
                   have c51b0 : decide (0 ≤ ((rd_T52 l2 x18_5).f0)) = true := decide_eq_true c51
                   clear c51
                   by_cases c52 : ((rd_T52 l2 x18_5).f0) < (t295.length : Int)
                   ·rw [if_pos c52] at H
                    have c52b0 : decide (((rd_T52 l2 x18_5).f0) < (t295.length : Int)) = true := decide_eq_true c52
                    clear c52
                    replace H := Option.bind_eq_some_iff.mp H
                    obtain ⟨t323, A530, H⟩ := H
                    replace H : (if t323 = true then (if 0 ≤ ((rd_T52 l2 x18_5).f1) then (if ((rd_T52 l2 x18_5).f1) < (t295.length : Int) then ((gampref04_Has.f k5 (rd_L2 t295 ((rd_T52 l2 x18_5).f1)) x14_3).bind fun t326 => (if t326 = true then (gampref04_Tree.l5 k5 a0 l2 t295 x14_3 x15_4 (wrap64 (x16_5 + 1)) (wrap64 (x18_5 + 1))) else (gampref04_Tree.l5 k5 a0 l2 t295 x14_3 x15_4 x16_5 (wrap64 (x18_5 + 1))))) else (none)) else (none)) else (gampref04_Tree.l5 k5 a0 l2 t295 x14_3 x15_4 x16_5 (wrap64 (x18_5 + 1)))) = some r := H
                    have A53 := Aside0.mk A530
                    clear A530
                    by_cases c54 : t323 = true
                    ·subst c54
                     have H1 : (if 0 ≤ ((rd_T52 l2 x18_5).f1) then (if ((rd_T52 l2 x18_5).f1) < (t295.length : Int) then ((gampref04_Has.f k5 (rd_L2 t295 ((rd_T52 l2 x18_5).f1)) x14_3).bind fun t326 => (if t326 = true then (gampref04_Tree.l5 k5 a0 l2 t295 x14_3 x15_4 (wrap64 (x16_5 + 1)) (wrap64 (x18_5 + 1))) else (gampref04_Tree.l5 k5 a0 l2 t295 x14_3 x15_4 x16_5 (wrap64 (x18_5 + 1))))) else (none)) else (none)) = some r := by rw [if_pos rfl] at H; exact H
                     clear H
                     have H := H1
                     clear H1
                     by_cases c55 : 0 ≤ ((rd_T52 l2 x18_5).f1)
                     ·rw [if_pos c55] at H
                      have c55b0 : decide (0 ≤ ((rd_T52 l2 x18_5).f1)) = true := decide_eq_true c55
                      clear c55
                      by_cases c56 : ((rd_T52 l2 x18_5).f1) < (t295.length : Int)
                      ·rw [if_pos c56] at H
                       have c56b0 : decide (((rd_T52 l2 x18_5).f1) < (t295.length : Int)) = true := decide_eq_true c56
                       clear c56
                       replace H := Option.bind_eq_some_iff.mp H
                       obtain ⟨t326, A570, H⟩ := H
                       replace H : (if t326 = true then (gampref04_Tree.l5 k5 a0 l2 t295 x14_3 x15_4 (wrap64 (x16_5 + 1)) (wrap64 (x18_5 + 1))) else (gampref04_Tree.l5 k5 a0 l2 t295 x14_3 x15_4 x16_5 (wrap64 (x18_5 + 1)))) = some r := H
                       have A57 := Aside0.mk A570
                       clear A570
                       by_cases c58 : t326 = true
                       ·subst c58
                        have H1 : (gampref04_Tree.l5 k5 a0 l2 t295 x14_3 x15_4 (wrap64 (x16_5 + 1)) (wrap64 (x18_5 + 1))) = some r := by rw [if_pos rfl] at H; exact H
                        clear H
                        have H := H1
                        clear H1
                        have H' := Aside0.mk H
                        clear H
                        have p321 : 0 ≤ (x18_5 : Int) := ofd
                        have q321 : x18_5 < (l2.length : Int) := ofd
                        obtain ⟨ad321, e321, hx321_0, hx321_1⟩ := at_T52 HR2.out x18_5 p321 q321
                        cases e321
                        replace hx321_0 := (HB.out.cell (World.block_lt_of_cell? w _ hx321_0)).trans hx321_0
                        replace hx321_1 := (HB.out.cell (World.block_lt_of_cell? w _ hx321_1)).trans hx321_1
                        replace p321 := eq_true p321
                        replace q321 := eq_true q321
                        have p322 : 0 ≤ (((rd_T52 l2 x18_5).f0) : Int) := ofd
                        have q322 : ((rd_T52 l2 x18_5).f0) < (t295.length : Int) := ofd
                        obtain ⟨ad322, A322_0, c322_0, e322, hx322_0, hl322_0, hi322_0⟩ := at_L2 (Kd.N_reads' HO_7.out).2.2 ((rd_T52 l2 x18_5).f0) p322 q322
                        cases e322
                        obtain ⟨ce322, hce322, hMe322, hcc322⟩ := Kd.N_get HO_7.out [] ((rd_T52 l2 x18_5).f0) p322 (by first | exact q322 | exact ofd | (have e_ := (Kd.N_reads' HO_7.out).1; omega))
                        obtain ⟨ua322_0, uc322_0, rfl, ul322_0, ge322_0⟩ := Kd.FK_slice_open hMe322
                        have hv322_0 := hcc322 0 _ rfl
                        rw [Nat.add_zero, show ((Kd.slice 3 (Kd.int .i64))).sz = 1 from rfl, Nat.mul_one] at hv322_0
                        replace hv322_0 := Option.some.inj (hv322_0.symm.trans hx322_0)
                        injection hv322_0 with hva_ hvn_ hvc_
                        rw [hva_] at ge322_0
                        rw [hvc_] at ul322_0
                        have HL322_0 := Aside0.mk (show Kd.V (Kd.int .i64) 3 _ w.heap.size _ _ (rd_L2 t295 ((rd_T52 l2 x18_5).f0)) from Kd.V_mk ul322_0 ge322_0)
                        clear hva_ hvn_ hvc_ ge322_0 ul322_0 hcc322 hce322
                        have HR322_0 := Aside0.mk hi322_0
                        have HC322_0 := Aside0.mk hl322_0
                        clear hi322_0 hl322_0
                        replace p322 := eq_true p322
                        replace q322 := eq_true q322
                        go_wp2_with (first | ((with_reducible refine gate_callee (f := 38) rfl ?_); refine gL 158 Try.func38 #[.slice A322_0 (rd_L2 t295 ((rd_T52 l2 x18_5).f0)).length c322_0, .int .i64 x14_3] ?_; (with_reducible refine (gampref04_Has.calls k5 _ _ (rd_L2 t295 ((rd_T52 l2 x18_5).f0)) x14_3 true _ ?side1 ?side2 A53.out).mono ?_); (case side1 => exact cl (HR322_0.out)); (case side2 => exact HC322_0.out); rintro e w' ⟨rfl, ⟨nd, rfl⟩⟩; refine ⟨_, rfl, ?_⟩; have p324 : 0 ≤ (x18_5 : Int) := ofd; have q324 : x18_5 < (l2.length : Int) := ofd; obtain ⟨ad324, e324, hx324_0, hx324_1⟩ := at_T52 HR2.out x18_5 p324 q324; obtain rfl : ad321 = ad324 := (by injection e324); replace hx324_0 := (HB.out.cell (World.block_lt_of_cell? w _ hx324_0)).trans hx324_0; replace hx324_1 := (HB.out.cell (World.block_lt_of_cell? w _ hx324_1)).trans hx324_1; replace p324 := eq_true p324; replace q324 := eq_true q324; have p325 : 0 ≤ (((rd_T52 l2 x18_5).f1) : Int) := ofd; have q325 : ((rd_T52 l2 x18_5).f1) < (t295.length : Int) := ofd; obtain ⟨ad325, A325_0, c325_0, e325, hx325_0, hl325_0, hi325_0⟩ := at_L2 (Kd.N_reads' HO_7.out).2.2 ((rd_T52 l2 x18_5).f1) p325 q325; obtain rfl : ad322 = ad325 := (by injection e325); obtain ⟨ce325, hce325, hMe325, hcc325⟩ := Kd.N_get HO_7.out [] ((rd_T52 l2 x18_5).f1) p325 (by first | exact q325 | exact ofd | (have e_ := (Kd.N_reads' HO_7.out).1; omega)); obtain ⟨ua325_0, uc325_0, rfl, ul325_0, ge325_0⟩ := Kd.FK_slice_open hMe325; have hv325_0 := hcc325 0 _ rfl; rw [Nat.add_zero, show ((Kd.slice 3 (Kd.int .i64))).sz = 1 from rfl, Nat.mul_one] at hv325_0; replace hv325_0 := Option.some.inj (hv325_0.symm.trans hx325_0); injection hv325_0 with hva_ hvn_ hvc_; rw [hva_] at ge325_0; rw [hvc_] at ul325_0; have HL325_0 := Aside0.mk (show Kd.V (Kd.int .i64) 3 _ w.heap.size _ _ (rd_L2 t295 ((rd_T52 l2 x18_5).f1)) from Kd.V_mk ul325_0 ge325_0); clear hva_ hvn_ hvc_ ge325_0 ul325_0; clear hcc325 hce325; have HR325_0 := Aside0.mk hi325_0; have HC325_0 := Aside0.mk hl325_0; clear hi325_0 hl325_0; replace p325 := eq_true p325; replace q325 := eq_true q325) | (go_at_call 38; (with_reducible refine (gampref04_Has.calls k5 _ _ (rd_L2 t295 ((rd_T52 l2 x18_5).f1)) x14_3 true _ ?side1 ?side2 A57.out).mono ?_); (case side1 => exact cl (HR325_0.out)); (case side2 => exact HC325_0.out); rintro e w' ⟨rfl, ⟨nd, rfl⟩⟩))
                        go_roundg k5
                        case measure => have := HK1.out; have := HK2.out; have := HK3.out; have := HK4.out; have := HK5.out; omega
                        case rel => exact ⟨(wrap64 (x16_5 + 1)), (wrap64 (x18_5 + 1)), (by first | rfl | (simp; done) | (simp [*]; done)), (by first | rfl | (simp; done) | (simp [*]; done)), H', ⟨by have := HK1.out; have := HK2.out; have := HK3.out; have := HK4.out; have := HK5.out; omega⟩, ⟨nl HO_7⟩, ⟨bl HB⟩⟩
                       ·replace c58 := Bool.eq_false_iff.mpr c58
                        subst c58
                        have H1 : (gampref04_Tree.l5 k5 a0 l2 t295 x14_3 x15_4 x16_5 (wrap64 (x18_5 + 1))) = some r := by rw [if_neg (show ¬ (false = true) by decide)] at H; exact H
                        clear H
                        have H := H1
                        clear H1
                        have H' := Aside0.mk H
                        clear H
                        have p321 : 0 ≤ (x18_5 : Int) := ofd
                        have q321 : x18_5 < (l2.length : Int) := ofd
                        obtain ⟨ad321, e321, hx321_0, hx321_1⟩ := at_T52 HR2.out x18_5 p321 q321
                        cases e321
                        replace hx321_0 := (HB.out.cell (World.block_lt_of_cell? w _ hx321_0)).trans hx321_0
                        replace hx321_1 := (HB.out.cell (World.block_lt_of_cell? w _ hx321_1)).trans hx321_1
                        replace p321 := eq_true p321
                        replace q321 := eq_true q321
                        have p322 : 0 ≤ (((rd_T52 l2 x18_5).f0) : Int) := ofd
                        have q322 : ((rd_T52 l2 x18_5).f0) < (t295.length : Int) := ofd
                        obtain ⟨ad322, A322_0, c322_0, e322, hx322_0, hl322_0, hi322_0⟩ := at_L2 (Kd.N_reads' HO_7.out).2.2 ((rd_T52 l2 x18_5).f0) p322 q322
                        cases e322
                        obtain ⟨ce322, hce322, hMe322, hcc322⟩ := Kd.N_get HO_7.out [] ((rd_T52 l2 x18_5).f0) p322 (by first | exact q322 | exact ofd | (have e_ := (Kd.N_reads' HO_7.out).1; omega))
                        obtain ⟨ua322_0, uc322_0, rfl, ul322_0, ge322_0⟩ := Kd.FK_slice_open hMe322
                        have hv322_0 := hcc322 0 _ rfl
                        rw [Nat.add_zero, show ((Kd.slice 3 (Kd.int .i64))).sz = 1 from rfl, Nat.mul_one] at hv322_0
                        replace hv322_0 := Option.some.inj (hv322_0.symm.trans hx322_0)
                        injection hv322_0 with hva_ hvn_ hvc_
                        rw [hva_] at ge322_0
                        rw [hvc_] at ul322_0
                        have HL322_0 := Aside0.mk (show Kd.V (Kd.int .i64) 3 _ w.heap.size _ _ (rd_L2 t295 ((rd_T52 l2 x18_5).f0)) from Kd.V_mk ul322_0 ge322_0)
                        clear hva_ hvn_ hvc_ ge322_0 ul322_0 hcc322 hce322
                        have HR322_0 := Aside0.mk hi322_0
                        have HC322_0 := Aside0.mk hl322_0
                        clear hi322_0 hl322_0
                        replace p322 := eq_true p322
                        replace q322 := eq_true q322
                        go_wp2_with (first | ((with_reducible refine gate_callee (f := 38) rfl ?_); refine gL 158 Try.func38 #[.slice A322_0 (rd_L2 t295 ((rd_T52 l2 x18_5).f0)).length c322_0, .int .i64 x14_3] ?_; (with_reducible refine (gampref04_Has.calls k5 _ _ (rd_L2 t295 ((rd_T52 l2 x18_5).f0)) x14_3 true _ ?side1 ?side2 A53.out).mono ?_); (case side1 => exact cl (HR322_0.out)); (case side2 => exact HC322_0.out); rintro e w' ⟨rfl, ⟨nd, rfl⟩⟩; refine ⟨_, rfl, ?_⟩; have p324 : 0 ≤ (x18_5 : Int) := ofd; have q324 : x18_5 < (l2.length : Int) := ofd; obtain ⟨ad324, e324, hx324_0, hx324_1⟩ := at_T52 HR2.out x18_5 p324 q324; obtain rfl : ad321 = ad324 := (by injection e324); replace hx324_0 := (HB.out.cell (World.block_lt_of_cell? w _ hx324_0)).trans hx324_0; replace hx324_1 := (HB.out.cell (World.block_lt_of_cell? w _ hx324_1)).trans hx324_1; replace p324 := eq_true p324; replace q324 := eq_true q324; have p325 : 0 ≤ (((rd_T52 l2 x18_5).f1) : Int) := ofd; have q325 : ((rd_T52 l2 x18_5).f1) < (t295.length : Int) := ofd; obtain ⟨ad325, A325_0, c325_0, e325, hx325_0, hl325_0, hi325_0⟩ := at_L2 (Kd.N_reads' HO_7.out).2.2 ((rd_T52 l2 x18_5).f1) p325 q325; obtain rfl : ad322 = ad325 := (by injection e325); obtain ⟨ce325, hce325, hMe325, hcc325⟩ := Kd.N_get HO_7.out [] ((rd_T52 l2 x18_5).f1) p325 (by first | exact q325 | exact ofd | (have e_ := (Kd.N_reads' HO_7.out).1; omega)); obtain ⟨ua325_0, uc325_0, rfl, ul325_0, ge325_0⟩ := Kd.FK_slice_open hMe325; have hv325_0 := hcc325 0 _ rfl; rw [Nat.add_zero, show ((Kd.slice 3 (Kd.int .i64))).sz = 1 from rfl, Nat.mul_one] at hv325_0; replace hv325_0 := Option.some.inj (hv325_0.symm.trans hx325_0); injection hv325_0 with hva_ hvn_ hvc_; rw [hva_] at ge325_0; rw [hvc_] at ul325_0; have HL325_0 := Aside0.mk (show Kd.V (Kd.int .i64) 3 _ w.heap.size _ _ (rd_L2 t295 ((rd_T52 l2 x18_5).f1)) from Kd.V_mk ul325_0 ge325_0); clear hva_ hvn_ hvc_ ge325_0 ul325_0; clear hcc325 hce325; have HR325_0 := Aside0.mk hi325_0; have HC325_0 := Aside0.mk hl325_0; clear hi325_0 hl325_0; replace p325 := eq_true p325; replace q325 := eq_true q325) | (go_at_call 38; (with_reducible refine (gampref04_Has.calls k5 _ _ (rd_L2 t295 ((rd_T52 l2 x18_5).f1)) x14_3 false _ ?side1 ?side2 A57.out).mono ?_); (case side1 => exact cl (HR325_0.out)); (case side2 => exact HC325_0.out); rintro e w' ⟨rfl, ⟨nd, rfl⟩⟩))
                        go_roundg k5
                        case measure => have := HK1.out; have := HK2.out; have := HK3.out; have := HK4.out; have := HK5.out; omega
                        case rel => exact ⟨(x16_5), (wrap64 (x18_5 + 1)), (by first | rfl | (simp; done) | (simp [*]; done)), (by first | rfl | (simp; done) | (simp [*]; done)), H', ⟨by have := HK1.out; have := HK2.out; have := HK3.out; have := HK4.out; have := HK5.out; omega⟩, ⟨nl HO_7⟩, ⟨bl HB⟩⟩
                      ·rw [if_neg c56] at H
                       exact absurd H (by simp)
                     ·rw [if_neg c55] at H
                      exact absurd H (by simp)
                    ·replace c54 := Bool.eq_false_iff.mpr c54
                     subst c54
                     have H1 : (gampref04_Tree.l5 k5 a0 l2 t295 x14_3 x15_4 x16_5 (wrap64 (x18_5 + 1))) = some r := by rw [if_neg (show ¬ (false = true) by decide)] at H; exact H
                     clear H
                     have H := H1
                     clear H1
                     have H' := Aside0.mk H
                     clear H
                     have p321 : 0 ≤ (x18_5 : Int) := ofd
                     have q321 : x18_5 < (l2.length : Int) := ofd
                     obtain ⟨ad321, e321, hx321_0, hx321_1⟩ := at_T52 HR2.out x18_5 p321 q321
                     cases e321
                     replace hx321_0 := (HB.out.cell (World.block_lt_of_cell? w _ hx321_0)).trans hx321_0
                     replace hx321_1 := (HB.out.cell (World.block_lt_of_cell? w _ hx321_1)).trans hx321_1
                     replace p321 := eq_true p321
                     replace q321 := eq_true q321
                     have p322 : 0 ≤ (((rd_T52 l2 x18_5).f0) : Int) := ofd
                     have q322 : ((rd_T52 l2 x18_5).f0) < (t295.length : Int) := ofd
                     obtain ⟨ad322, A322_0, c322_0, e322, hx322_0, hl322_0, hi322_0⟩ := at_L2 (Kd.N_reads' HO_7.out).2.2 ((rd_T52 l2 x18_5).f0) p322 q322
                     cases e322
                     obtain ⟨ce322, hce322, hMe322, hcc322⟩ := Kd.N_get HO_7.out [] ((rd_T52 l2 x18_5).f0) p322 (by first | exact q322 | exact ofd | (have e_ := (Kd.N_reads' HO_7.out).1; omega))
                     obtain ⟨ua322_0, uc322_0, rfl, ul322_0, ge322_0⟩ := Kd.FK_slice_open hMe322
                     have hv322_0 := hcc322 0 _ rfl
                     rw [Nat.add_zero, show ((Kd.slice 3 (Kd.int .i64))).sz = 1 from rfl, Nat.mul_one] at hv322_0
                     replace hv322_0 := Option.some.inj (hv322_0.symm.trans hx322_0)
                     injection hv322_0 with hva_ hvn_ hvc_
                     rw [hva_] at ge322_0
                     rw [hvc_] at ul322_0
                     have HL322_0 := Aside0.mk (show Kd.V (Kd.int .i64) 3 _ w.heap.size _ _ (rd_L2 t295 ((rd_T52 l2 x18_5).f0)) from Kd.V_mk ul322_0 ge322_0)
                     clear hva_ hvn_ hvc_ ge322_0 ul322_0 hcc322 hce322
                     have HR322_0 := Aside0.mk hi322_0
                     have HC322_0 := Aside0.mk hl322_0
                     clear hi322_0 hl322_0
                     replace p322 := eq_true p322
                     replace q322 := eq_true q322
                     go_wp2_with (first | ((with_reducible refine gate_callee (f := 38) rfl ?_); refine gL 158 Try.func38 #[.slice A322_0 (rd_L2 t295 ((rd_T52 l2 x18_5).f0)).length c322_0, .int .i64 x14_3] ?_; (with_reducible refine (gampref04_Has.calls k5 _ _ (rd_L2 t295 ((rd_T52 l2 x18_5).f0)) x14_3 false _ ?side1 ?side2 A53.out).mono ?_); (case side1 => exact cl (HR322_0.out)); (case side2 => exact HC322_0.out); rintro e w' ⟨rfl, ⟨nd, rfl⟩⟩; refine ⟨_, rfl, ?_⟩))
                     go_roundg k5
                     case measure => have := HK1.out; have := HK2.out; have := HK3.out; have := HK4.out; have := HK5.out; omega
                     case rel => exact ⟨(x16_5), (wrap64 (x18_5 + 1)), (by first | rfl | (simp; done) | (simp [*]; done)), (by first | rfl | (simp; done) | (simp [*]; done)), H', ⟨by have := HK1.out; have := HK2.out; have := HK3.out; have := HK4.out; have := HK5.out; omega⟩, ⟨nl HO_7⟩, ⟨bl HB⟩⟩
                   ·rw [if_neg c52] at H
                    exact absurd H (by simp)
                  ·rw [if_neg c51] at H
                   exact absurd H (by simp)
                 ·rw [if_neg c50] at H
                  exact absurd H (by simp)
                ·rw [if_neg c49] at H
                 have c49b0 : decide (x18_5 < (l2.length : Int)) = false := decide_eq_false c49
                 clear c49
                 by_cases c59 : x16_5 = (wrap64 (x15_4 - 1))
                 ·rw [if_pos c59] at H
                  have c59b0 : (x16_5 == (wrap64 (x15_4 - 1))) = true := beq_iff_eq.mpr c59
                  have c59b1 : (x16_5 != (wrap64 (x15_4 - 1))) = false := bne_eq_false_iff_eq.mpr c59
                  clear c59
                  have H' := Aside0.mk H
                  clear H
                  go_wp2
                  go_roundg k5
                  case measure => have := HK1.out; have := HK2.out; have := HK3.out; have := HK4.out; have := HK5.out; omega
                  case rel => exact ⟨(wrap64 (x14_3 + 1)), (by first | rfl | (simp; done) | (simp [*]; done)), H', ⟨by have := HK1.out; have := HK2.out; have := HK3.out; have := HK4.out; have := HK5.out; omega⟩, ⟨nl HO_7⟩, ⟨bl HB⟩⟩
                 ·rw [if_neg c59] at H
                  have c59b0 : (x16_5 == (wrap64 (x15_4 - 1))) = false := beq_eq_false_iff_ne.mpr c59
                  have c59b1 : (x16_5 != (wrap64 (x15_4 - 1))) = true := bne_iff_ne.mpr c59
                  obtain rfl := Option.some.inj H
                  go_wp2
                  go_ret
                  exact ⟨by first | rfl | (simp [errW_none, errW_some] <;> rfl) | (simp [*, errW_none, errW_some] <;> rfl), by repeat (first | (with_reducible first | exact HB.out | apply below_alloc | apply pw_below_drewN | apply below_drew1) | exact HB.out)⟩
          ·rw [if_neg c44] at H
           have c44b0 : decide (x14_3 < a0) = false := decide_eq_false c44
           clear c44
           obtain rfl := Option.some.inj H
           go_wp2
           go_ret
           exact ⟨by first | rfl | (simp [errW_none, errW_some] <;> rfl) | (simp [*, errW_none, errW_some] <;> rfl), by repeat (first | (with_reducible first | exact HB.out | apply below_alloc | apply pw_below_drewN | apply below_drew1) | exact HB.out)⟩
 ·rw [if_neg c5] at H
  have c5b0 : ((l2.length : Int) == (wrap64 ((t295.length : Int) - 1))) = false := beq_eq_false_iff_ne.mpr c5
  have c5b1 : ((l2.length : Int) != (wrap64 ((t295.length : Int) - 1))) = true := bne_iff_ne.mpr c5
  obtain rfl := Option.some.inj H
  go_enter Try.func22, Try.ntmps22
  go_wp2_with (first | ((with_reducible refine gate_callee (f := 19) rfl ?_); refine gL 21 Try.func19 #[.int .i64 a0, .slice A1 l1.length c1] ?_; (with_reducible refine (gampref04_Cliques.calls k a0 _ _ l1 t295 _ ?side1 ?side2 A4.out).mono ?_); (case side1 => exact cl (HR1.out)); (case side2 => exact HC1.out); rintro e w60 ⟨v296, rfl, ho0, hb⟩; refine ⟨_, rfl, ?_⟩; have n0_ := Aside0.mk (Kd.N_lower (Kd.N_mono (ok' := fun k_ => True) ho0 (fun k_ hk_ => trivial)) (below_size (bl HB))); have n1_ := Aside0.mk (below_step (bl HB) hb); clear HB; have HO297 := n0_; have HB := n1_; clear n0_ n1_; (try clear hb); (try clear hb2); (try clear hk); (try clear hi); (try clear ho0); obtain ⟨Ao61, co61, eo61⟩ := Kd.N_slice HO297.out; subst eo61))
  go_ret
  exact ⟨by first | rfl | (simp [errW_none, errW_some] <;> rfl) | (simp [*, errW_none, errW_some] <;> rfl), by repeat (first | (with_reducible first | exact HB.out | apply below_alloc | apply pw_below_drewN | apply below_drew1) | exact HB.out)⟩
end Go.Proofs.Ytdpolfflemocaaa.Rx

/- The declarations of Rxx14 that the claim Qc needs. -/
import Derived.Test.YtdpolfflemocaaaQcTkP
import Derived.Test.YtdpolfflemocaaaQcRxx0
import Derived.Test.YtdpolfflemocaaaQcRxx5
import Derived.Test.YtdpolfflemocaaaQcRxx6
namespace Go.Proofs.Ytdpolfflemocaaa.Rx
open Go.RowKit Go.Proofs.Ytdpolfflemocaaa.Own Go.Proofs.YtdpolfflemocaaaW.PrintWords Go.Proofs.YtdpolfflemocaaaW.PrintLast Go.Proofs.YtdpolfflemocaaaW.PrintMore
attribute [local go_sem] max2_int min2_int max_two min_two max_three min_three max_four min_four
set_option linter.unusedVariables false
set_option linter.unusedSimpArgs false
mutual
def gampref04_Chordal.l0 : Nat → Int → List (S52) → List Int → Int → Option (Bool)
  | 0, _, _, _, _ => none
  | k + 1, x0, x1, x5, x6 => if x6 < x0 then (if x5.length < 17592186044416 then (gampref04_Chordal.l0 k x0 x1 (x5 ++ [x6]) (wrap64 (x6 + 1))) else (none)) else (gampref04_Chordal.l1 k x1 x5)
def gampref04_Chordal.l1 : Nat → List (S52) → List Int → Option (Bool)
  | 0, _, _ => none
  | k + 1, x1, x5 => if (x5.length : Int) > 0 then (gampref04_Chordal.l2 k x1 x5 (-1) 0) else (some true)
def gampref04_Chordal.l2 : Nat → List (S52) → List Int → Int → Int → Option (Bool)
  | 0, _, _, _, _ => none
  | k + 1, x1, x5, x7, x8 => if x8 < (x5.length : Int) then (gampref04_Chordal.j3 k x1 x5 x7 x8 (decide (x7 < 0))) else (gampref04_Chordal.j3 k x1 x5 x7 x8 false)
def gampref04_Chordal.j3 : Nat → List (S52) → List Int → Int → Int → Bool → Option (Bool)
  | 0, _, _, _, _, _ => none
  | k + 1, x1, x5, x7, x8, x31 => if x31 = true then (gampref04_Chordal.l3 k x1 x5 x7 x8 (([] : List Int)) 0) else (if x7 < 0 then (some false) else ((some (([] : List Int) : List Int)).bind fun y333 => (if 0 ≤ x7 then (if x7 ≤ (x5.length : Int) then ((some (x5.take (x7 : Int).toNat : List Int)).bind fun y336 => (if y333.length + y336.length < 17592186044416 then ((some (y333 ++ y336 : List Int)).bind fun y340 => (if 0 ≤ (wrap64 (x7 + 1)) then (if (wrap64 (x7 + 1)) ≤ (x5.length : Int) then ((some (x5.drop ((wrap64 (x7 + 1)) : Int).toNat : List Int)).bind fun y343 => (if y340.length + y343.length < 17592186044416 then (gampref04_Chordal.l1 k x1 (y340 ++ y343)) else (none))) else (none)) else (none))) else (none))) else (none)) else (none))))
def gampref04_Chordal.l3 : Nat → List (S52) → List Int → Int → Int → List Int → Int → Option (Bool)
  | 0, _, _, _, _, _, _ => none
  | k + 1, x1, x5, x7, x8, x9, x10 => if x10 < (x5.length : Int) then (if 0 ≤ x8 then (if x8 < (x5.length : Int) then (if 0 ≤ x10 then ((gampref04_Near.f k x1 (rd x5 x8) (rd x5 x10)).bind fun t355 => (if t355 = true then (if x9.length < 17592186044416 then (gampref04_Chordal.l3 k x1 x5 x7 x8 (x9 ++ [rd x5 x10]) (wrap64 (x10 + 1))) else (none)) else (gampref04_Chordal.l3 k x1 x5 x7 x8 x9 (wrap64 (x10 + 1))))) else (none)) else (none)) else (none)) else ((gampref04_Clique.f k x1 x9).bind fun t360 => (if t360 = true then (gampref04_Chordal.l2 k x1 x5 x8 (wrap64 (x8 + 1))) else (gampref04_Chordal.l2 k x1 x5 x7 (wrap64 (x8 + 1)))))
end
def gampref04_Chordal.f (k : Nat) (a0 : Int) (l1 : List (S52)) : Option (Bool) := gampref04_Chordal.l0 k a0 l1 (([] : List Int)) 0
def gampref04_Chordal.T15 : Bool × List (List Nat × List Nat) := (true, [([], []), ([], []), ([], []), ([1, 2], [1, 2]), ([3], [3]), ([], []), ([], []), ([5, 6], [5, 6]), ([7], [7]), ([0, 4, 8], [0, 4, 8])])
def gampref04_Chordal.B15 : List Nat := [0, 0, 0, 6, 14, 0, 0, 96, 224, 511]
theorem gampref04_Chordal.tab15 : rtab .any (opsOf Try.f23 15) = gampref04_Chordal.T15 := by kernel_rfl
theorem gampref04_Chordal.bits15 : waitsOk gampref04_Chordal.T15.2 gampref04_Chordal.B15 = true := by kernel_rfl
def gampref04_Chordal.T21 : Bool × List (List Nat × List Nat) := (true, [([], []), ([], []), ([], []), ([1, 2], [1, 2]), ([0, 3], [0, 3]), ([], []), ([], []), ([6], [6]), ([5, 7], [5, 7]), ([4, 8, 4], [4, 8]), ([9, 9, 0, 1, 2, 3, 4, 5, 6, 7, 8, 9], [1, 5, 9])])
def gampref04_Chordal.B21 : List Nat := [0, 0, 0, 6, 15, 0, 0, 64, 224, 511, 1023]
theorem gampref04_Chordal.tab21 : rtab .any (opsOf Try.f23 21) = gampref04_Chordal.T21 := by kernel_rfl
theorem gampref04_Chordal.bits21 : waitsOk gampref04_Chordal.T21.2 gampref04_Chordal.B21 = true := by kernel_rfl
set_option maxHeartbeats 8000000 in
set_option maxRecDepth 100000 in
theorem gampref04_Chordal.calls (k : Nat) (a0 : Int) (A1 : Option Addr) (c1 : Nat) (l1 : List (S52)) (r : Bool) (w : World) (hr1 : Kd.C k52 w A1 l1.length l1) (hc1 : l1.length ≤ c1) (h : gampref04_Chordal.f k a0 l1 = some r) :
  Calls Try.prog 23 #[.int .i64 a0, .slice A1 l1.length c1] w fun e w' => e = .returned (.bool r) ∧ Below w.heap.size w w' := by
 have HR1 := Aside0.mk hr1
 have HC1 := Aside0.mk hc1
 clear hr1 hc1
 have HB := Aside0.mk (Below.refl w.heap.size w)
 have H : (gampref04_Chordal.l0 k a0 l1 (([] : List Int)) 0) = some r := h
 clear h
 obtain ⟨y327, hy327⟩ : ∃ y_ : List Int, y_ = (([] : List Int)) := ⟨_, rfl⟩
 replace H : (gampref04_Chordal.l0 k a0 l1 y327 0) = some r := by first | (rw [hy327]; with_reducible exact H) | (have H2_ := (Option.bind_some _ _).symm.trans H; rw [hy327]; with_reducible exact H2_) | (have H2_ := (Option.bind_some _ _).symm.trans H; with_reducible exact H2_) | with_reducible exact H | (rw [hy327]; exact H) | exact H
 have Ny327 := Aside0.mk hy327
 clear hy327
 have H' := Aside0.mk H
 clear H
 go_enter Try.func23, Try.ntmps23
 go_wp2_with (first | ((with_reducible refine gate_dst (N := 11) rfl ?_); refine Kd.R_lit (Kd.int .i64) _ 3 ?hg (N := 11) ?hd (xs := ([] : List Int)) (inner := []) (ok := fun _ => True) (okp := fun _ => True) ?hr ?hp (fun _ hk => hk) trivial (Below.refl _ _) (Nat.le_refl _) (by simp) ?_; (case hd => rfl); (case hg => rfl); (case hr => first | (go_simp; done) | (go_simp; rfl)); (case hp => exact (Reps.none _ _)); intro v328 w3 ho4 hb hg_ hnew_; clear hg_ hnew_; (first | rw [← Ny327.out] at ho4 | (simp only [Int.reduceToNat] at ho4; rw [← Ny327.out] at ho4)); have n0_ := Aside0.mk (Kd.R_lower ho4 (below_size (bl HB))); have n1_ := Aside0.mk (below_step (bl HB) hb); clear HB; have HO329 := n0_; have HB := n1_; clear n0_ n1_; clear hb ho4))
 go_loopg [5, 6] k (fun kq v5 v6 w' => ∃ (x5_1 : List Int) (x6_1 : Int), v6 = .int .i64 x6_1 ∧ Aside0 (gampref04_Chordal.l0 kq a0 l1 x5_1 x6_1 = some r) ∧ Aside0 (kq ≤ k) ∧ Aside0 (Kd.R (Kd.int .i64) 3 w' w.heap.size (fun _ => True) v5 x5_1) ∧ Aside0 (Below w.heap.size w w'))
 case atStart => exact ⟨(y327), (0), (by first | rfl | (simp; done) | (simp [*]; done)), H', ⟨Nat.le_refl _⟩, ⟨rl HO329⟩, ⟨bl HB⟩⟩
 case round =>
  clear H'
  try clear c1
  try clear c2
  try clear p2
  obtain ⟨x5_1, x6_1, rfl, HA, HK1, HO_5, HB⟩ := hrel
  cases gk with
  | zero => exact absurd HA.out (by simp [gampref04_Chordal.l0])
  | succ k1 =>
   have H := HA.out
   clear HA
   simp only [gampref04_Chordal.l0] at H
   by_cases c5 : x6_1 < a0
   ·rw [if_pos c5] at H
    have c5b0 : decide (x6_1 < a0) = true := decide_eq_true c5
    clear c5
    by_cases c6 : x5_1.length < 17592186044416
    ·rw [if_pos c6] at H
     have LMc6 := Aside0.mk c6
     clear c6
     obtain ⟨y330, hy330⟩ : ∃ y_ : List Int, y_ = (x5_1 ++ [x6_1]) := ⟨_, rfl⟩
     replace H : (gampref04_Chordal.l0 k1 a0 l1 y330 (wrap64 (x6_1 + 1))) = some r := by first | (rw [hy330]; with_reducible exact H) | (have H2_ := (Option.bind_some _ _).symm.trans H; rw [hy330]; with_reducible exact H2_) | (have H2_ := (Option.bind_some _ _).symm.trans H; with_reducible exact H2_) | with_reducible exact H | (rw [hy330]; exact H) | exact H
     have Ny330 := Aside0.mk hy330
     clear hy330
     have H' := Aside0.mk H
     clear H
     go_wp2_with (first | ((with_reducible refine gate_builtin (b := .append) (xs := #[.tmp 17, .tmp 19]) rfl ?_); at_builtin; refine Kd.R_append (Kd.int .i64) (w0 := w) w.heap.size rfl (.tmp 17) (.tmp 19) 34 3 (.int .i64 0) 8 rfl Try.underlying34 info3 rfl (by decide) (by omega) u5 x5_1 x6_1 [.int .i64 x6_1] (fun _ => True) (fun _ => False) rfl rfl ?aP (fun _ hk => hk.elim) ?aF ?aO ?aB ?aS ?aL ?_; (case aP => exact rfl); (case aB => exact (bl HB)); (case aF => exact (fun _ _ => trivial)); (case aO => exact (rl HO_5)); (case aS => exact (below_size (bl HB))); (case aL => have := LMc6.out; omega); intro v331 w7 ho hb hg hat; rw [← Ny330.out] at ho; have n0_ := Aside0.mk (hb); have n1_ := Aside0.mk (ho); clear HB; clear HO_5; have HB := n0_; have HO332 := n1_; clear n0_ n1_; clear ho hb hg hat))
     go_roundg k1
     case measure => have := HK1.out; omega
     case rel => exact ⟨(y330), (wrap64 (x6_1 + 1)), (by first | rfl | (simp; done) | (simp [*]; done)), H', ⟨by have := HK1.out; omega⟩, ⟨rl HO332⟩, ⟨bl HB⟩⟩
    ·rw [if_neg c6] at H
     exact absurd H (by simp)
   ·rw [if_neg c5] at H
    have c5b0 : decide (x6_1 < a0) = false := decide_eq_false c5
    clear c5
    have H' := Aside0.mk H
    clear H
    go_wp2
    go_loopg [5] k1 (fun kq v5 w' => ∃ (x5_2 : List Int), Aside0 (gampref04_Chordal.l1 kq l1 x5_2 = some r) ∧ Aside0 (kq ≤ k1) ∧ Aside0 (Kd.R (Kd.int .i64) 3 w' w.heap.size (fun _ => True) v5 x5_2) ∧ Aside0 (Below w.heap.size w w'))
    case atStart => exact ⟨(x5_1), H', ⟨Nat.le_refl _⟩, ⟨rl HO_5⟩, ⟨bl HB⟩⟩
    case round =>
     clear H'
     try clear c1
     try clear c2
     try clear p2
     try clear c5
     try clear c5b0
     try clear c6
     try clear p6
     try clear p2
     obtain ⟨x5_2, HA, HK2, HO_5, HB⟩ := hrel
     cases gk with
     | zero => exact absurd HA.out (by simp [gampref04_Chordal.l1])
     | succ k2 =>
      have H := HA.out
      clear HA
      simp only [gampref04_Chordal.l1] at H
      by_cases c8 : (x5_2.length : Int) > 0
      ·rw [if_pos c8] at H
       have c8b0 : decide (0 < (x5_2.length : Int)) = true := decide_eq_true c8
       have c8b1 : decide (0 < x5_2.length) = true := decide_eq_true (by omega)
       clear c8
       have H' := Aside0.mk H
       clear H
       obtain ⟨Ao9, co9, eo9⟩ := Kd.R_slice HO_5.out
       subst eo9
       go_wp2
       go_loopg [7, 8] k2 (fun kq v7 v8 w' => ∃ (x7_3 : Int) (x8_3 : Int), v7 = .int .i64 x7_3 ∧ v8 = .int .i64 x8_3 ∧ Aside0 (gampref04_Chordal.l2 kq l1 x5_2 x7_3 x8_3 = some r) ∧ Aside0 (kq ≤ k2) ∧ Aside0 (Kd.R (Kd.int .i64) 3 w' w.heap.size (fun _ => True) (.slice Ao9 x5_2.length co9) x5_2) ∧ Aside0 (Below w.heap.size w w'))
       case atStart => exact ⟨((-1)), (0), (by first | rfl | (simp; done) | (simp [*]; done)), (by first | rfl | (simp; done) | (simp [*]; done)), H', ⟨Nat.le_refl _⟩, ⟨rl HO_5⟩, ⟨bl HB⟩⟩
       case round =>
        clear H'
        try clear c1
        try clear c2
        try clear p2
        try clear c5
        try clear c5b0
        try clear c6
        try clear p6
        try clear c8
        try clear c8b0
        try clear c8b1
        try clear p2
        try clear p6
        obtain ⟨x7_3, x8_3, rfl, rfl, HA, HK3, HO_5, HB⟩ := hrel
        cases gk with
        | zero => exact absurd HA.out (by simp [gampref04_Chordal.l2])
        | succ k3 =>
         have H := HA.out
         clear HA
         simp only [gampref04_Chordal.l2] at H
         have HC10 := Aside0.mk H
         clear H
         go_upto_region 9 with (fail)
         go_cut [31] (fun v31 wc => ∃ (kq : Nat) (x31_9 : Bool), v31 = .bool x31_9 ∧ Aside0 (gampref04_Chordal.j3 kq l1 x5_2 x7_3 x8_3 x31_9 = some r) ∧ Aside0 (kq ≤ k3) ∧ Aside0 (Kd.R (Kd.int .i64) 3 wc w.heap.size (fun _ => True) (.slice Ao9 x5_2.length co9) x5_2) ∧ Aside0 (Below w.heap.size w wc))
         case first =>
          have H := HC10.out
          clear HC10
          by_cases c11 : x8_3 < (x5_2.length : Int)
          ·rw [if_pos c11] at H
           have c11b0 : decide (x8_3 < (x5_2.length : Int)) = true := decide_eq_true c11
           clear c11
           (first | rw [c11b0] | (simp only [i64_w, i32_w]; rw [c11b0]) | skip)
           have H' := Aside0.mk H
           clear H
           go_wp2
           go_meet
           case rel => exact ⟨_, (decide (x7_3 < 0)), (by first | rfl | (simp; done) | (simp [*]; done)), H', ⟨by have := HK1.out; have := HK2.out; have := HK3.out; first | omega | exact Nat.le_refl _⟩, ⟨rl HO_5⟩, ⟨bl HB⟩⟩
          ·rw [if_neg c11] at H
           have c11b0 : decide (x8_3 < (x5_2.length : Int)) = false := decide_eq_false c11
           clear c11
           (first | rw [c11b0] | (simp only [i64_w, i32_w]; rw [c11b0]) | skip)
           have H' := Aside0.mk H
           clear H
           go_wp2
           go_meet
           case rel => exact ⟨_, (false), (by first | rfl | (simp; done) | (simp [*]; done)), H', ⟨by have := HK1.out; have := HK2.out; have := HK3.out; first | omega | exact Nat.le_refl _⟩, ⟨rl HO_5⟩, ⟨bl HB⟩⟩
         case rest =>
          clear HC10
          try clear c1
          try clear c2
          try clear p2
          try clear c5
          try clear c5b0
          try clear c6
          try clear p6
          try clear c8
          try clear c8b0
          try clear c8b1
          try clear c11
          try clear c11b0
          try clear p2
          try clear p6
          obtain ⟨kq, x31_9, rfl, HA, HJ9, HO_5, HB⟩ := hcut
          cases kq with
          | zero => exact absurd HA.out (by simp [gampref04_Chordal.j3])
          | succ kj9 =>
           have H := HA.out
           clear HA
           simp only [gampref04_Chordal.j3] at H
           by_cases c12 : x31_9 = true
           ·subst c12
            have H1 : (gampref04_Chordal.l3 kj9 l1 x5_2 x7_3 x8_3 (([] : List Int)) 0) = some r := by rw [if_pos rfl] at H; exact H
            clear H
            have H := H1
            clear H1
            obtain ⟨y350, hy350⟩ : ∃ y_ : List Int, y_ = (([] : List Int)) := ⟨_, rfl⟩
            replace H : (gampref04_Chordal.l3 kj9 l1 x5_2 x7_3 x8_3 y350 0) = some r := by first | (rw [hy350]; with_reducible exact H) | (have H2_ := (Option.bind_some _ _).symm.trans H; rw [hy350]; with_reducible exact H2_) | (have H2_ := (Option.bind_some _ _).symm.trans H; with_reducible exact H2_) | with_reducible exact H | (rw [hy350]; exact H) | exact H
            have Ny350 := Aside0.mk hy350
            clear hy350
            have H' := Aside0.mk H
            clear H
            go_wp2_with (first | ((with_reducible refine gate_dst (N := 34) rfl ?_); refine Kd.R_lit (Kd.int .i64) _ 3 ?hg (N := 34) ?hd (xs := ([] : List Int)) (inner := []) (ok := fun _ => True) (okp := fun _ => True) ?hr ?hp (fun _ hk => hk) trivial (Below.refl _ _) (Nat.le_refl _) (by simp) ?_; (case hd => rfl); (case hg => rfl); (case hr => first | (go_simp; done) | (go_simp; rfl)); (case hp => exact (Reps.none _ _)); intro v351 w13 ho14 hb hg_ hnew_; clear hg_ hnew_; (first | rw [← Ny350.out] at ho14 | (simp only [Int.reduceToNat] at ho14; rw [← Ny350.out] at ho14)); have n0_ := Aside0.mk (Kd.R_elder' (rl HO_5) (Kd.R_base ho14) hb); have n1_ := Aside0.mk (Kd.R_lower (Kd.R_new' ho14 (Kd.R_lt (rl HO_5))) (below_size (bl HB))); have n2_ := Aside0.mk (below_step (bl HB) hb); clear HO_5; clear HB; have HO_5 := n0_; have HO352 := n1_; have HB := n2_; clear n0_ n1_ n2_; clear hb ho14))
            go_loopg [9, 10] kj9 (fun kq v9 v10 w' => ∃ (x9_5 : List Int) (x10_5 : Int), v10 = .int .i64 x10_5 ∧ Aside0 (gampref04_Chordal.l3 kq l1 x5_2 x7_3 x8_3 x9_5 x10_5 = some r) ∧ Aside0 (kq ≤ kj9) ∧ Aside0 (Kd.R (Kd.int .i64) 3 w' w.heap.size (fun k_ => some k_ ≠ (v9 : Value).ownBlock) (.slice Ao9 x5_2.length co9) x5_2) ∧ Aside0 (Kd.R (Kd.int .i64) 3 w' w.heap.size (fun k_ => some k_ ≠ ((.slice Ao9 x5_2.length co9) : Value).ownBlock) v9 x9_5) ∧ Aside0 (Below w.heap.size w w'))
            case atStart => exact ⟨(y350), (0), (by first | rfl | (simp; done) | (simp [*]; done)), H', ⟨Nat.le_refl _⟩, ⟨by (with_reducible repeat (first | apply Kd.R_alloc | apply Kd.R_drewN | apply Kd.R_drew)); exact Kd.R_mono HO_5.out (fun _ hk => hk.2)⟩, ⟨by (with_reducible repeat (first | apply Kd.R_alloc | apply Kd.R_drewN | apply Kd.R_drew)); exact Kd.R_mono HO352.out (fun _ hk => hk.2)⟩, ⟨bl HB⟩⟩
            case round =>
             clear H'
             try clear c1
             try clear c2
             try clear p2
             try clear c5
             try clear c5b0
             try clear c6
             try clear p6
             try clear c8
             try clear c8b0
             try clear c8b1
             try clear c11
             try clear c11b0
             try clear c12
             try clear p2
             try clear p6
             obtain ⟨x9_5, x10_5, rfl, HA, HK5, HO_5, HO_9, HB⟩ := hrel
             cases gk with
             | zero => exact absurd HA.out (by simp [gampref04_Chordal.l3])
             | succ k5 =>
              have H := HA.out
              clear HA
              simp only [gampref04_Chordal.l3] at H
              by_cases c15 : x10_5 < (x5_2.length : Int)
              ·rw [if_pos c15] at H
               have c15b0 : decide (x10_5 < (x5_2.length : Int)) = true := decide_eq_true c15
               clear c15
               by_cases c16 : 0 ≤ x8_3
               ·rw [if_pos c16] at H
                have c16b0 : decide (0 ≤ x8_3) = true := decide_eq_true c16
                clear c16
                by_cases c17 : x8_3 < (x5_2.length : Int)
                ·rw [if_pos c17] at H
                 have c17b0 : decide (x8_3 < (x5_2.length : Int)) = true := decide_eq_true c17
                 clear c17
                 by_cases c18 : 0 ≤ x10_5
                 ·rw [if_pos c18] at H
                  have c18b0 : decide (0 ≤ x10_5) = true := decide_eq_true c18
                  clear c18
                  replace H := Option.bind_eq_some_iff.mp H
                  obtain ⟨t355, A190, H⟩ := H
                  replace H : (if t355 = true then (if x9_5.length < 17592186044416 then (gampref04_Chordal.l3 k5 l1 x5_2 x7_3 x8_3 (x9_5 ++ [rd x5_2 x10_5]) (wrap64 (x10_5 + 1))) else (none)) else (gampref04_Chordal.l3 k5 l1 x5_2 x7_3 x8_3 x9_5 (wrap64 (x10_5 + 1)))) = some r := H
                  have A19 := Aside0.mk A190
                  clear A190
                  by_cases c20 : t355 = true
                  ·subst c20
                   have H1 : (if x9_5.length < 17592186044416 then (gampref04_Chordal.l3 k5 l1 x5_2 x7_3 x8_3 (x9_5 ++ [rd x5_2 x10_5]) (wrap64 (x10_5 + 1))) else (none)) = some r := by rw [if_pos rfl] at H; exact H
                   clear H
                   have H := H1
                   clear H1
                   by_cases c21 : x9_5.length < 17592186044416
                   ·rw [if_pos c21] at H
                    have LMc21 := Aside0.mk c21
                    clear c21
                    obtain ⟨y357, hy357⟩ : ∃ y_ : List Int, y_ = (x9_5 ++ [rd x5_2 x10_5]) := ⟨_, rfl⟩
                    replace H : (gampref04_Chordal.l3 k5 l1 x5_2 x7_3 x8_3 y357 (wrap64 (x10_5 + 1))) = some r := by first | (rw [hy357]; with_reducible exact H) | (have H2_ := (Option.bind_some _ _).symm.trans H; rw [hy357]; with_reducible exact H2_) | (have H2_ := (Option.bind_some _ _).symm.trans H; with_reducible exact H2_) | with_reducible exact H | (rw [hy357]; exact H) | exact H
                    have Ny357 := Aside0.mk hy357
                    clear hy357
                    have H' := Aside0.mk H
                    clear H
                    try go_wp2
                    have n0_ := Aside0.mk (Kd.R_drew HO_5.out)
                    have n1_ := Aside0.mk (Kd.R_drew HO_9.out)
                    have n2_ := Aside0.mk (below_drew1 HB.out)
                    clear HO_5 HO_9 HB
                    have HO_5 := n0_; have HO_9 := n1_; have HB := n2_
                    clear n0_ n1_ n2_
                    have p353 : 0 ≤ (x8_3 : Int) := ofd
                    have q353 : x8_3 < (x5_2.length : Int) := ofd
                    obtain ⟨ad353, e353, hx353_0⟩ := Kd.at_int (Kd.R_reads' HO_5.out).2.2 x8_3 p353 q353
                    cases e353
                    replace p353 := eq_true p353
                    replace q353 := eq_true q353
                    have p354 : 0 ≤ (x10_5 : Int) := ofd
                    have q354 : x10_5 < (x5_2.length : Int) := ofd
                    obtain ⟨ad354, e354, hx354_0⟩ := Kd.at_int (Kd.R_reads' HO_5.out).2.2 x10_5 p354 q354
                    obtain rfl : ad353 = ad354 := (by injection e354)
                    replace p354 := eq_true p354
                    replace q354 := eq_true q354
                    refine start_ (n := 10) (S := fun w' => w'.cell? (ad353.add (x8_3).toNat) = some (.int .i64 (rd x5_2 x8_3)) ∧ w'.cell? (ad353.add (x10_5).toNat) = some (.int .i64 (rd x5_2 x10_5))) (ds := []) #[false, false, false, false, false, false, false, false, false, false] (by kernel_rfl) rfl rfl ⟨hx353_0, hx354_0⟩ (fun hHeld => ?_); refine with_tabW gampref04_Chordal.tab15 gampref04_Chordal.bits15 (fun HT_ HW_ => ?_)
                    generalize wr.drew = w22 at HO_5 HO_9 HB hx353_0 hx354_0 hHeld ⊢
                    refine pr 0 41 HT_ ?_
                    refine pr 1 42 HT_ ?_
                    refine pr 2 43 HT_ ?_
                    refine pr 3 44 HT_ ?_
                    refine pr 5 46 HT_ ?_
                    refine pr 6 47 HT_ ?_
                    refine pr 7 48 HT_ ?_
                    refine tr 4 45 HT_ HW_ hHeld ?_
                    refine tr 8 49 HT_ HW_ hHeld ?_
                    refine on 9 (some 50) HT_ (fun K hK => ?_)
                    refine gS Try.func61 #[.slice A1 l1.length c1, .int .i64 (rd x5_2 x8_3), .int .i64 (rd x5_2 x10_5)] ?_
                    with_reducible refine (gampref04_Near.calls k5 _ _ l1 (rd x5_2 x8_3) (rd x5_2 x10_5) true _ ?side1 ?side2 A19.out).mono ?_
                    (case side1 => exact cl (Kd.C_below HR1.out HB.out))
                    (case side2 => exact HC1.out)
                    rintro e w23 ⟨rfl, hb⟩
                    have HS0_ := (hb.cell (World.block_lt_of_cell? _ _ (hHeld.1))).trans (hHeld.1)
                    have HS1_ := (hb.cell (World.block_lt_of_cell? _ _ (hHeld.2))).trans (hHeld.2)
                    refine ⟨_, rfl, ?_⟩
                    have n0_ := Aside0.mk (Kd.R_below (rl HO_5) hb)
                    have n1_ := Aside0.mk (Kd.R_below (rl HO_9) hb)
                    have n2_ := Aside0.mk (below_step (bl HB) hb)
                    clear HO_5 HO_9 HB
                    have HO_5 := n0_; have HO_9 := n1_; have HB := n2_
                    clear n0_ n1_ n2_
                    (try clear hb)
                    (try clear hb2)
                    (try clear hk)
                    (try clear hi)
                    refine hK.out _ _ ⟨HS0_, HS1_⟩ (fun hHeld => ?_)
                    clear hK K
                    refine nr (some 50) ?_
                    refine dn HT_ ?_
                    have p356 : 0 ≤ (x10_5 : Int) := ofd
                    have q356 : x10_5 < (x5_2.length : Int) := ofd
                    obtain ⟨ad356, e356, hx356_0⟩ := Kd.at_int (Kd.R_reads' HO_5.out).2.2 x10_5 p356 q356
                    obtain rfl : ad353 = ad356 := (by injection e356)
                    replace p356 := eq_true p356
                    replace q356 := eq_true q356
                    try go_wp2_with (first | ((with_reducible refine gate_builtin (b := .append) (xs := #[.tmp 51, .tmp 56]) rfl ?_); at_builtin; refine Kd.R_append (Kd.int .i64) (w0 := w) w.heap.size rfl (.tmp 51) (.tmp 56) 34 3 (.int .i64 0) 8 rfl Try.underlying34 info3 rfl (by decide) (by omega) u9 x9_5 (rd x5_2 x10_5) [.int .i64 (rd x5_2 x10_5)] (fun k_ => some k_ ≠ (.slice (some ad353) x5_2.length co9 : Value).ownBlock) (fun _ => False) rfl rfl ?aP (fun _ hk => hk.elim) ?aF ?aO ?aB ?aS ?aL ?_; (case aP => exact rfl); (case aB => exact (bl HB)); (case aF => exact (fun k_ hk => Kd.fresh' (Kd.R_lt (rl HO_5)) k_ hk)); (case aO => exact (rl HO_9)); (case aS => exact (below_size (bl HB))); (case aL => have := LMc21.out; omega); intro v358 w24 ho hb hg hat; rw [← Ny357.out] at ho; have n0_ := Aside0.mk (Kd.R_after (ok := (fun _ => True)) (by (with_reducible repeat (first | apply Kd.R_alloc | apply Kd.R_drewN | apply Kd.R_drew)); exact Kd.R_mono HO_5.out (fun _ hk => ⟨trivial, hk⟩)) hg hat); have n1_ := Aside0.mk (hb); have n2_ := Aside0.mk (ho); clear HO_5; clear HB; clear HO_9; have HO_5 := n0_; have HB := n1_; have HO359 := n2_; clear n0_ n1_ n2_; clear ho hb hg hat))
                    go_roundg k5
                    case measure => have := HK1.out; have := HK2.out; have := HK3.out; have := HJ9.out; have := HK5.out; omega
                    case rel => exact ⟨(y357), (wrap64 (x10_5 + 1)), (by first | rfl | (simp; done) | (simp [*]; done)), H', ⟨by have := HK1.out; have := HK2.out; have := HK3.out; have := HJ9.out; have := HK5.out; omega⟩, ⟨by (with_reducible repeat (first | apply Kd.R_alloc | apply Kd.R_drewN | apply Kd.R_drew)); exact Kd.R_mono HO_5.out (fun _ hk => hk.2)⟩, ⟨rl HO359⟩, ⟨bl HB⟩⟩
                   ·rw [if_neg c21] at H
                    exact absurd H (by simp)
                  ·replace c20 := Bool.eq_false_iff.mpr c20
                   subst c20
                   have H1 : (gampref04_Chordal.l3 k5 l1 x5_2 x7_3 x8_3 x9_5 (wrap64 (x10_5 + 1))) = some r := by rw [if_neg (show ¬ (false = true) by decide)] at H; exact H
                   clear H
                   have H := H1
                   clear H1
                   have H' := Aside0.mk H
                   clear H
                   try go_wp2
                   have n0_ := Aside0.mk (Kd.R_drew HO_5.out)
                   have n1_ := Aside0.mk (Kd.R_drew HO_9.out)
                   have n2_ := Aside0.mk (below_drew1 HB.out)
                   clear HO_5 HO_9 HB
                   have HO_5 := n0_; have HO_9 := n1_; have HB := n2_
                   clear n0_ n1_ n2_
                   have p353 : 0 ≤ (x8_3 : Int) := ofd
                   have q353 : x8_3 < (x5_2.length : Int) := ofd
                   obtain ⟨ad353, e353, hx353_0⟩ := Kd.at_int (Kd.R_reads' HO_5.out).2.2 x8_3 p353 q353
                   cases e353
                   replace p353 := eq_true p353
                   replace q353 := eq_true q353
                   have p354 : 0 ≤ (x10_5 : Int) := ofd
                   have q354 : x10_5 < (x5_2.length : Int) := ofd
                   obtain ⟨ad354, e354, hx354_0⟩ := Kd.at_int (Kd.R_reads' HO_5.out).2.2 x10_5 p354 q354
                   obtain rfl : ad353 = ad354 := (by injection e354)
                   replace p354 := eq_true p354
                   replace q354 := eq_true q354
                   refine start_ (n := 10) (S := fun w' => w'.cell? (ad353.add (x8_3).toNat) = some (.int .i64 (rd x5_2 x8_3)) ∧ w'.cell? (ad353.add (x10_5).toNat) = some (.int .i64 (rd x5_2 x10_5))) (ds := []) #[false, false, false, false, false, false, false, false, false, false] (by kernel_rfl) rfl rfl ⟨hx353_0, hx354_0⟩ (fun hHeld => ?_); refine with_tabW gampref04_Chordal.tab15 gampref04_Chordal.bits15 (fun HT_ HW_ => ?_)
                   generalize wr.drew = w25 at HO_5 HO_9 HB hx353_0 hx354_0 hHeld ⊢
                   refine pr 0 41 HT_ ?_
                   refine pr 1 42 HT_ ?_
                   refine pr 2 43 HT_ ?_
                   refine pr 3 44 HT_ ?_
                   refine pr 5 46 HT_ ?_
                   refine pr 6 47 HT_ ?_
                   refine pr 7 48 HT_ ?_
                   refine tr 4 45 HT_ HW_ hHeld ?_
                   refine tr 8 49 HT_ HW_ hHeld ?_
                   refine on 9 (some 50) HT_ (fun K hK => ?_)
                   refine gS Try.func61 #[.slice A1 l1.length c1, .int .i64 (rd x5_2 x8_3), .int .i64 (rd x5_2 x10_5)] ?_
                   with_reducible refine (gampref04_Near.calls k5 _ _ l1 (rd x5_2 x8_3) (rd x5_2 x10_5) false _ ?side1 ?side2 A19.out).mono ?_
                   (case side1 => exact cl (Kd.C_below HR1.out HB.out))
                   (case side2 => exact HC1.out)
                   rintro e w26 ⟨rfl, hb⟩
                   have HS0_ := (hb.cell (World.block_lt_of_cell? _ _ (hHeld.1))).trans (hHeld.1)
                   have HS1_ := (hb.cell (World.block_lt_of_cell? _ _ (hHeld.2))).trans (hHeld.2)
                   refine ⟨_, rfl, ?_⟩
                   have n0_ := Aside0.mk (Kd.R_below (rl HO_5) hb)
                   have n1_ := Aside0.mk (Kd.R_below (rl HO_9) hb)
                   have n2_ := Aside0.mk (below_step (bl HB) hb)
                   clear HO_5 HO_9 HB
                   have HO_5 := n0_; have HO_9 := n1_; have HB := n2_
                   clear n0_ n1_ n2_
                   (try clear hb)
                   (try clear hb2)
                   (try clear hk)
                   (try clear hi)
                   refine hK.out _ _ ⟨HS0_, HS1_⟩ (fun hHeld => ?_)
                   clear hK K
                   refine nr (some 50) ?_
                   refine dn HT_ ?_
                   try go_wp2
                   go_roundg k5
                   case measure => have := HK1.out; have := HK2.out; have := HK3.out; have := HJ9.out; have := HK5.out; omega
                   case rel => exact ⟨(x9_5), (wrap64 (x10_5 + 1)), (by first | rfl | (simp; done) | (simp [*]; done)), H', ⟨by have := HK1.out; have := HK2.out; have := HK3.out; have := HJ9.out; have := HK5.out; omega⟩, ⟨rl HO_5⟩, ⟨rl HO_9⟩, ⟨bl HB⟩⟩
                 ·rw [if_neg c18] at H
                  exact absurd H (by simp)
                ·rw [if_neg c17] at H
                 exact absurd H (by simp)
               ·rw [if_neg c16] at H
                exact absurd H (by simp)
              ·rw [if_neg c15] at H
               have c15b0 : decide (x10_5 < (x5_2.length : Int)) = false := decide_eq_false c15
               clear c15
               replace H := Option.bind_eq_some_iff.mp H
               obtain ⟨t360, A270, H⟩ := H
               replace H : (if t360 = true then (gampref04_Chordal.l2 k5 l1 x5_2 x8_3 (wrap64 (x8_3 + 1))) else (gampref04_Chordal.l2 k5 l1 x5_2 x7_3 (wrap64 (x8_3 + 1)))) = some r := H
               have A27 := Aside0.mk A270
               clear A270
               by_cases c28 : t360 = true
               ·subst c28
                have H1 : (gampref04_Chordal.l2 k5 l1 x5_2 x8_3 (wrap64 (x8_3 + 1))) = some r := by rw [if_pos rfl] at H; exact H
                clear H
                have H := H1
                clear H1
                have H' := Aside0.mk H
                clear H
                obtain ⟨Ao29, co29, eo29⟩ := Kd.R_slice HO_9.out
                subst eo29
                go_wp2_with (first | ((with_reducible refine gate_callee (f := 39) rfl ?_); refine gL 60 Try.func39 #[.slice A1 l1.length c1, .slice Ao29 x9_5.length co29] ?_; (with_reducible refine (gampref04_Clique.calls k5 _ _ l1 _ _ x9_5 true _ ?side1 ?side2 ?side3 ?side4 A27.out).mono ?_); (case side1 => exact cl (Kd.C_below HR1.out HB.out)); (case side2 => exact HC1.out); (case side3 => exact cl ((Kd.R_reads' HO_9.out).2.2)); (case side4 => exact (Kd.R_reads' HO_9.out).2.1); rintro e w30 ⟨rfl, hb⟩; refine ⟨_, rfl, ?_⟩; have n0_ := Aside0.mk (Kd.R_below (rl HO_5) hb); have n1_ := Aside0.mk (Kd.R_below (rl HO_9) hb); have n2_ := Aside0.mk (below_step (bl HB) hb); clear HO_5; clear HO_9; clear HB; have HO_5 := n0_; have HO_9 := n1_; have HB := n2_; clear n0_ n1_ n2_; (try clear hb); (try clear hb2); (try clear hk); (try clear hi)))
                go_roundg k5
                case measure => have := HK1.out; have := HK2.out; have := HK3.out; have := HJ9.out; have := HK5.out; omega
                case rel => exact ⟨(x8_3), (wrap64 (x8_3 + 1)), (by first | rfl | (simp; done) | (simp [*]; done)), (by first | rfl | (simp; done) | (simp [*]; done)), H', ⟨by have := HK1.out; have := HK2.out; have := HK3.out; have := HJ9.out; have := HK5.out; omega⟩, ⟨by (with_reducible repeat (first | apply Kd.R_alloc | apply Kd.R_drewN | apply Kd.R_drew)); exact Kd.R_mono HO_5.out (fun _ hk => trivial)⟩, ⟨bl HB⟩⟩
               ·replace c28 := Bool.eq_false_iff.mpr c28
                subst c28
                have H1 : (gampref04_Chordal.l2 k5 l1 x5_2 x7_3 (wrap64 (x8_3 + 1))) = some r := by rw [if_neg (show ¬ (false = true) by decide)] at H; exact H
                clear H
                have H := H1
                clear H1
                have H' := Aside0.mk H
                clear H
                obtain ⟨Ao31, co31, eo31⟩ := Kd.R_slice HO_9.out
                subst eo31
                go_wp2_with (first | ((with_reducible refine gate_callee (f := 39) rfl ?_); refine gL 60 Try.func39 #[.slice A1 l1.length c1, .slice Ao31 x9_5.length co31] ?_; (with_reducible refine (gampref04_Clique.calls k5 _ _ l1 _ _ x9_5 false _ ?side1 ?side2 ?side3 ?side4 A27.out).mono ?_); (case side1 => exact cl (Kd.C_below HR1.out HB.out)); (case side2 => exact HC1.out); (case side3 => exact cl ((Kd.R_reads' HO_9.out).2.2)); (case side4 => exact (Kd.R_reads' HO_9.out).2.1); rintro e w32 ⟨rfl, hb⟩; refine ⟨_, rfl, ?_⟩; have n0_ := Aside0.mk (Kd.R_below (rl HO_5) hb); have n1_ := Aside0.mk (Kd.R_below (rl HO_9) hb); have n2_ := Aside0.mk (below_step (bl HB) hb); clear HO_5; clear HO_9; clear HB; have HO_5 := n0_; have HO_9 := n1_; have HB := n2_; clear n0_ n1_ n2_; (try clear hb); (try clear hb2); (try clear hk); (try clear hi)))
                go_roundg k5
                case measure => have := HK1.out; have := HK2.out; have := HK3.out; have := HJ9.out; have := HK5.out; omega
                case rel => exact ⟨(x7_3), (wrap64 (x8_3 + 1)), (by first | rfl | (simp; done) | (simp [*]; done)), (by first | rfl | (simp; done) | (simp [*]; done)), H', ⟨by have := HK1.out; have := HK2.out; have := HK3.out; have := HJ9.out; have := HK5.out; omega⟩, ⟨by (with_reducible repeat (first | apply Kd.R_alloc | apply Kd.R_drewN | apply Kd.R_drew)); exact Kd.R_mono HO_5.out (fun _ hk => trivial)⟩, ⟨bl HB⟩⟩
           ·replace c12 := Bool.eq_false_iff.mpr c12
            subst c12
            have H1 : (if x7_3 < 0 then (some false) else ((some (([] : List Int) : List Int)).bind fun y333 => (if 0 ≤ x7_3 then (if x7_3 ≤ (x5_2.length : Int) then ((some (x5_2.take (x7_3 : Int).toNat : List Int)).bind fun y336 => (if y333.length + y336.length < 17592186044416 then ((some (y333 ++ y336 : List Int)).bind fun y340 => (if 0 ≤ (wrap64 (x7_3 + 1)) then (if (wrap64 (x7_3 + 1)) ≤ (x5_2.length : Int) then ((some (x5_2.drop ((wrap64 (x7_3 + 1)) : Int).toNat : List Int)).bind fun y343 => (if y340.length + y343.length < 17592186044416 then (gampref04_Chordal.l1 kj9 l1 (y340 ++ y343)) else (none))) else (none)) else (none))) else (none))) else (none)) else (none)))) = some r := by rw [if_neg (show ¬ (false = true) by decide)] at H; exact H
            clear H
            have H := H1
            clear H1
            by_cases c33 : x7_3 < 0
            ·rw [if_pos c33] at H
             have c33b0 : decide (x7_3 < 0) = true := decide_eq_true c33
             clear c33
             obtain rfl := Option.some.inj H
             go_wp2
             go_ret
             exact ⟨by first | rfl | (simp [errW_none, errW_some] <;> rfl) | (simp [*, errW_none, errW_some] <;> rfl), by repeat (first | (with_reducible first | exact HB.out | apply below_alloc | apply pw_below_drewN | apply below_drew1) | exact HB.out)⟩
            ·rw [if_neg c33] at H
             have c33b0 : decide (x7_3 < 0) = false := decide_eq_false c33
             clear c33
             obtain ⟨y333, hy333⟩ : ∃ y_ : List Int, y_ = (([] : List Int)) := ⟨_, rfl⟩
             replace H : (if 0 ≤ x7_3 then (if x7_3 ≤ (x5_2.length : Int) then ((some (x5_2.take (x7_3 : Int).toNat : List Int)).bind fun y336 => (if y333.length + y336.length < 17592186044416 then ((some (y333 ++ y336 : List Int)).bind fun y340 => (if 0 ≤ (wrap64 (x7_3 + 1)) then (if (wrap64 (x7_3 + 1)) ≤ (x5_2.length : Int) then ((some (x5_2.drop ((wrap64 (x7_3 + 1)) : Int).toNat : List Int)).bind fun y343 => (if y340.length + y343.length < 17592186044416 then (gampref04_Chordal.l1 kj9 l1 (y340 ++ y343)) else (none))) else (none)) else (none))) else (none))) else (none)) else (none)) = some r := by first | (rw [hy333]; with_reducible exact H) | (have H2_ := (Option.bind_some _ _).symm.trans H; rw [hy333]; with_reducible exact H2_) | (have H2_ := (Option.bind_some _ _).symm.trans H; with_reducible exact H2_) | with_reducible exact H | (rw [hy333]; exact H) | exact H
             have Ny333 := Aside0.mk hy333
             clear hy333
             by_cases c34 : 0 ≤ x7_3
             ·rw [if_pos c34] at H
              have c34b0 := eq_true c34
              have c34b1 : decide (0 ≤ x7_3) = true := decide_eq_true c34
              clear c34
              by_cases c35 : x7_3 ≤ (x5_2.length : Int)
              ·rw [if_pos c35] at H
               have c35b0 := eq_true c35
               have c35b1 : decide (x7_3 ≤ (x5_2.length : Int)) = true := decide_eq_true c35
               clear c35
               obtain ⟨y336, hy336⟩ : ∃ y_ : List Int, y_ = (x5_2.take (x7_3 : Int).toNat) := ⟨_, rfl⟩
               replace H : (if y333.length + y336.length < 17592186044416 then ((some (y333 ++ y336 : List Int)).bind fun y340 => (if 0 ≤ (wrap64 (x7_3 + 1)) then (if (wrap64 (x7_3 + 1)) ≤ (x5_2.length : Int) then ((some (x5_2.drop ((wrap64 (x7_3 + 1)) : Int).toNat : List Int)).bind fun y343 => (if y340.length + y343.length < 17592186044416 then (gampref04_Chordal.l1 kj9 l1 (y340 ++ y343)) else (none))) else (none)) else (none))) else (none)) = some r := by first | (rw [hy336]; with_reducible exact H) | (have H2_ := (Option.bind_some _ _).symm.trans H; rw [hy336]; with_reducible exact H2_) | (have H2_ := (Option.bind_some _ _).symm.trans H; with_reducible exact H2_) | with_reducible exact H | (rw [hy336]; exact H) | exact H
               have Ny336 := Aside0.mk hy336
               clear hy336
               by_cases c36 : y333.length + y336.length < 17592186044416
               ·rw [if_pos c36] at H
                have LMc36 := Aside0.mk c36
                clear c36
                obtain ⟨y340, hy340⟩ : ∃ y_ : List Int, y_ = (y333 ++ y336) := ⟨_, rfl⟩
                replace H : (if 0 ≤ (wrap64 (x7_3 + 1)) then (if (wrap64 (x7_3 + 1)) ≤ (x5_2.length : Int) then ((some (x5_2.drop ((wrap64 (x7_3 + 1)) : Int).toNat : List Int)).bind fun y343 => (if y340.length + y343.length < 17592186044416 then (gampref04_Chordal.l1 kj9 l1 (y340 ++ y343)) else (none))) else (none)) else (none)) = some r := by first | (rw [hy340]; with_reducible exact H) | (have H2_ := (Option.bind_some _ _).symm.trans H; rw [hy340]; with_reducible exact H2_) | (have H2_ := (Option.bind_some _ _).symm.trans H; with_reducible exact H2_) | with_reducible exact H | (rw [hy340]; exact H) | exact H
                have Ny340 := Aside0.mk hy340
                clear hy340
                obtain ⟨ji37, hji37⟩ : ∃ j_ : Int, (wrap64 (x7_3 + 1)) = j_ := ⟨_, rfl⟩
                replace H : (if 0 ≤ (ji37) then (if (ji37) ≤ (x5_2.length : Int) then ((some (x5_2.drop ((ji37) : Int).toNat : List Int)).bind fun y343 => (if y340.length + y343.length < 17592186044416 then (gampref04_Chordal.l1 kj9 l1 (y340 ++ y343)) else (none))) else (none)) else (none)) = some r := by first | (rw [hji37] at H; exact H) | (simp only [hji37] at H ⊢; exact H)
                have hji37w : (IntKind.i64.wrap (x7_3 + 1)) = ji37 := (i64_w _).trans hji37
                by_cases c38 : 0 ≤ (ji37)
                ·rw [if_pos c38] at H
                 have c38b0 := eq_true c38
                 have c38b1 : decide (0 ≤ (ji37)) = true := decide_eq_true c38
                 clear c38
                 by_cases c39 : (ji37) ≤ (x5_2.length : Int)
                 ·rw [if_pos c39] at H
                  have c39b0 := eq_true c39
                  have c39b1 : decide ((ji37) ≤ (x5_2.length : Int)) = true := decide_eq_true c39
                  clear c39
                  obtain ⟨y343, hy343⟩ : ∃ y_ : List Int, y_ = (x5_2.drop ((ji37) : Int).toNat) := ⟨_, rfl⟩
                  replace H : (if y340.length + y343.length < 17592186044416 then (gampref04_Chordal.l1 kj9 l1 (y340 ++ y343)) else (none)) = some r := by first | (rw [hy343]; with_reducible exact H) | (have H2_ := (Option.bind_some _ _).symm.trans H; rw [hy343]; with_reducible exact H2_) | (have H2_ := (Option.bind_some _ _).symm.trans H; with_reducible exact H2_) | with_reducible exact H | (rw [hy343]; exact H) | exact H
                  have Ny343 := Aside0.mk hy343
                  clear hy343
                  by_cases c40 : y340.length + y343.length < 17592186044416
                  ·rw [if_pos c40] at H
                   have LMc40 := Aside0.mk c40
                   clear c40
                   obtain ⟨y347, hy347⟩ : ∃ y_ : List Int, y_ = (y340 ++ y343) := ⟨_, rfl⟩
                   replace H : (gampref04_Chordal.l1 kj9 l1 y347) = some r := by first | (rw [hy347]; with_reducible exact H) | (have H2_ := (Option.bind_some _ _).symm.trans H; rw [hy347]; with_reducible exact H2_) | (have H2_ := (Option.bind_some _ _).symm.trans H; with_reducible exact H2_) | with_reducible exact H | (rw [hy347]; exact H) | exact H
                   have Ny347 := Aside0.mk hy347
                   clear hy347
                   have H' := Aside0.mk H
                   clear H
                   try go_wp2
                   have n0_ := Aside0.mk (Kd.R_drew HO_5.out)
                   have n1_ := Aside0.mk (below_drew1 HB.out)
                   clear HO_5 HB
                   have HO_5 := n0_; have HB := n1_
                   clear n0_ n1_
                   have q42 : (x7_3 : Int) ≤ ((x5_2.length : Int) : Int) := ofd
                   obtain ⟨i042, hi042, _, hsz42, _⟩ := info_parts info3
                   have hroom42 : x5_2.length ≤ co9 := (Kd.R_reads' HO_5.out).2.1
                   have hC42 : Kd.C (Kd.int .i64) _ Ao9 x5_2.length x5_2 := (Kd.R_reads' HO_5.out).2.2
                   have hcut42 := cut_to (P := Try.prog) 34 3 .i64 Try.underlying34 hi042 Ao9 x5_2.length co9 x7_3 (ofd) q42 hroom42
                   have hr42 := Kd.C_take (m := (x7_3 : Int).toNat) hC42 (by omega)
                   have hy42 : y336.length = (x7_3 : Int).toNat := (by rw [Ny336.out, List.length_take]; omega)
                   rw [← Ny336.out] at hr42
                   rw [← hy42] at hcut42
                   have HR339 := Aside0.mk hr42
                   have HC339 := Aside0.mk (show y336.length ≤ co9 from by omega)
                   clear hr42 hC42 hroom42 hi042 hsz42
                   have KY42 := Aside0.mk hy42
                   clear hy42
                   have KL42 := Aside0.mk (show (x7_3 : Int).toNat ≤ x5_2.length from by omega)
                   replace q42 := eq_true q42
                   have q43 : ((ji37) : Int) ≤ ((x5_2.length : Int) : Int) := ofd
                   obtain ⟨i043, hi043, _, hsz43, _⟩ := info_parts info3
                   have hroom43 : x5_2.length ≤ co9 := (Kd.R_reads' HO_5.out).2.1
                   have hC43 : Kd.C (Kd.int .i64) _ Ao9 x5_2.length x5_2 := (Kd.R_reads' HO_5.out).2.2
                   have q043 : (0 : Int) ≤ ((ji37) : Int) := ofd
                   have hcut43 := cut_from (P := Try.prog) 34 3 .i64 Try.underlying34 hi043 1 hsz43 Ao9 x5_2.length co9 (ji37) q043 q43
                   have hr43 := Kd.C_drop (m := ((ji37) : Int).toNat) (c := co9) hC43 (by omega) hroom43
                   obtain ⟨A43, hA43⟩ : ∃ A1, A1 = (if co9 = ((ji37) : Int).toNat then Ao9 else (Ao9 : Option Addr).map (·.add (((ji37) : Int).toNat * 1))) := ⟨_, rfl⟩
                   obtain ⟨c43, hc43⟩ : ∃ c1, c1 = co9 - ((ji37) : Int).toNat := ⟨_, rfl⟩
                   have hy43 : y343.length = x5_2.length - ((ji37) : Int).toNat := (by rw [Ny343.out, List.length_drop] <;> omega)
                   rw [show (x5_2).drop ((ji37) : Int).toNat = y343 from Ny343.out.symm] at hr43
                   replace hr43 : Kd.C (Kd.int .i64) _ A43 y343.length y343 := (by rw [hA43]; exact hr43)
                   rw [← hy43, ← hA43, ← hc43] at hcut43
                   have HR346 := Aside0.mk hr43
                   have HC346 := Aside0.mk (show y343.length ≤ c43 from by rw [hy43, hc43]; exact Nat.sub_le_sub_right hroom43 _)
                   clear hr43 hC43 hroom43 hi043 hsz43 hc43
                   have KY43 := Aside0.mk hy43
                   have KA43 := Aside0.mk hA43
                   clear hy43 hA43
                   have KL43 := Aside0.mk (show ((ji37) : Int).toNat ≤ x5_2.length from by omega)
                   replace q43 := eq_true q43
                   refine start_ (n := 11) (S := fun w' => True) (ds := []) #[false, false, false, false, false, false, false, false, false, false, false] (by kernel_rfl) rfl rfl trivial (fun hHeld => ?_); refine with_tabW gampref04_Chordal.tab21 gampref04_Chordal.bits21 (fun HT_ HW_ => ?_)
                   generalize wc.drew = w41 at HO_5 HB HR339 HR346 hHeld ⊢
                   refine pr 1 65 HT_ ?_
                   refine pr 2 66 HT_ ?_
                   refine pr 3 67 HT_ ?_
                   refine pr 5 69 HT_ ?_
                   refine pr 6 70 HT_ ?_
                   refine pr 7 71 HT_ ?_
                   refine pr 8 72 HT_ ?_
                   refine on 0 (some 64) HT_ (fun K hK => ?_)
                   refine Kd.R_lit_step (Kd.int .i64) _ 3 ?hg (N := 64) ?hd (xs := ([] : List Int)) (inner := []) (ok := fun _ => True) (okp := fun _ => True) ?hr ?hp (fun _ hk => hk) trivial (Below.refl _ _) (Nat.le_refl _) (by simp) ?_; (case hd => rfl); (case hg => rfl); (case hr => first | (go_simp; done) | (go_simp; rfl)); (case hp => exact (Reps.none _ _))
                   intro v334 w44 ho45 hb hg_ hnew_
                   clear hg_ hnew_
                   (first | rw [← Ny333.out] at ho45 | (simp only [Int.reduceToNat] at ho45; rw [← Ny333.out] at ho45))
                   have n0_ := Aside0.mk (Kd.R_elder' (rl HO_5) (Kd.R_base ho45) hb)
                   have n1_ := Aside0.mk (Kd.R_lower (Kd.R_new' ho45 (Kd.R_lt (rl HO_5))) (below_size (bl HB)))
                   have n2_ := Aside0.mk (Kd.C_below (cl HR339.out) hb)
                   have n3_ := Aside0.mk (Kd.C_below (cl HR346.out) hb)
                   have n4_ := Aside0.mk (below_step (bl HB) hb)
                   clear HO_5 HR339 HR346 HB
                   have HO_5 := n0_; have HO335 := n1_; have HR339 := n2_; have HR346 := n3_; have HB := n4_
                   clear n0_ n1_ n2_ n3_ n4_ hb ho45
                   refine hK.out _ _ trivial (fun hHeld => ?_)
                   clear hK K
                   refine nr (some 64) ?_
                   refine on 4 (some 68) HT_ (fun K hK => ?_)
                   refine Kd.R_append_rows_step (Kd.int .i64) (w0 := w) w.heap.size (by rfl) (.tmp 64) (.tmp 67) 34 3 (.int .i64 0) 8 rfl Try.underlying34 info3 rfl (by decide) (by omega) v334 y333 y336 _ _ _ (fun k_ => some k_ ≠ (.slice Ao9 x5_2.length co9 : Value).ownBlock) (fun _ => False) rfl rfl ?aO ?aR (fun _ _ h => h) (fun _ h => h.elim) ?aF ?aB ?aS ?aL ?_
                   (case aR => exact cl (HR339.out))
                   (case aB => exact (bl HB))
                   (case aF => exact (fun k_ hk => Kd.fresh' (Kd.R_lt (rl HO_5)) k_ hk))
                   (case aO => exact (by (with_reducible repeat (first | apply Kd.R_alloc | apply Kd.R_drewN | apply Kd.R_drew)); exact Kd.R_mono HO335.out (fun _ hk => hk.2)))
                   (case aS => exact (below_size (bl HB)))
                   (case aL => have := LMc36.out; omega)
                   intro v341 w46 ho hb hg hat
                   rw [← Ny340.out] at ho
                   have n0_ := Aside0.mk (Kd.R_after (ok := (fun _ => True)) (rl HO_5) hg hat)
                   have n1_ := Aside0.mk (hb)
                   have n2_ := Aside0.mk ((show Kd.C (Kd.int .i64) w46 Ao9 y336.length y336 from by rw [Ny336.out]; exact Kd.C_take (m := (x7_3 : Int).toNat) ((Kd.R_reads' (Kd.R_after (ok := (fun _ => True)) (rl HO_5) hg hat)).2.2) KL42.out))
                   have n3_ := Aside0.mk ((show Kd.C (Kd.int .i64) w46 A43 y343.length y343 from by rw [Ny343.out, KA43.out]; exact Kd.C_drop (m := ((ji37) : Int).toNat) (c := co9) ((Kd.R_reads' (Kd.R_after (ok := (fun _ => True)) (rl HO_5) hg hat)).2.2) KL43.out ((Kd.R_reads' (Kd.R_after (ok := (fun _ => True)) (rl HO_5) hg hat)).2.1)))
                   have n4_ := Aside0.mk (ho)
                   clear HO_5 HB HR339 HR346 HO335
                   have HO_5 := n0_; have HB := n1_; have HR339 := n2_; have HR346 := n3_; have HO342 := n4_
                   clear n0_ n1_ n2_ n3_ n4_ ho hb hg hat
                   refine hK.out _ _ trivial (fun hHeld => ?_)
                   clear hK K
                   refine nr (some 68) ?_
                   refine on 9 (some 73) HT_ (fun K hK => ?_)
                   refine Kd.R_append_rows_step (Kd.int .i64) (w0 := w) w.heap.size (by rfl) (.tmp 68) (.tmp 72) 34 3 (.int .i64 0) 8 rfl Try.underlying34 info3 rfl (by decide) (by omega) v341 y340 y343 _ _ _ (fun k_ => some k_ ≠ (.slice Ao9 x5_2.length co9 : Value).ownBlock) (fun _ => False) rfl rfl ?aO ?aR (fun _ _ h => h) (fun _ h => h.elim) ?aF ?aB ?aS ?aL ?_
                   (case aR => exact cl (HR346.out))
                   (case aB => exact (bl HB))
                   (case aF => exact (fun k_ hk => Kd.fresh' (Kd.R_lt (rl HO_5)) k_ hk))
                   (case aO => exact (rl HO342))
                   (case aS => exact (below_size (bl HB)))
                   (case aL => have := LMc40.out; omega)
                   intro v348 w47 ho hb hg hat
                   rw [← Ny347.out] at ho
                   have n0_ := Aside0.mk (Kd.R_after (ok := (fun _ => True)) (rl HO_5) hg hat)
                   have n1_ := Aside0.mk (hb)
                   have n2_ := Aside0.mk ((show Kd.C (Kd.int .i64) w47 Ao9 y336.length y336 from by rw [Ny336.out]; exact Kd.C_take (m := (x7_3 : Int).toNat) ((Kd.R_reads' (Kd.R_after (ok := (fun _ => True)) (rl HO_5) hg hat)).2.2) KL42.out))
                   have n3_ := Aside0.mk ((show Kd.C (Kd.int .i64) w47 A43 y343.length y343 from by rw [Ny343.out, KA43.out]; exact Kd.C_drop (m := ((ji37) : Int).toNat) (c := co9) ((Kd.R_reads' (Kd.R_after (ok := (fun _ => True)) (rl HO_5) hg hat)).2.2) KL43.out ((Kd.R_reads' (Kd.R_after (ok := (fun _ => True)) (rl HO_5) hg hat)).2.1)))
                   have n4_ := Aside0.mk (ho)
                   clear HO_5 HB HR339 HR346 HO342
                   have HO_5 := n0_; have HB := n1_; have HR339 := n2_; have HR346 := n3_; have HO349 := n4_
                   clear n0_ n1_ n2_ n3_ n4_ ho hb hg hat
                   refine hK.out _ _ trivial (fun hHeld => ?_)
                   clear hK K
                   refine nr (some 73) ?_
                   refine pr 10 5 HT_ ?_
                   refine dn HT_ ?_
                   try go_wp2
                   go_roundg kj9
                   case measure => have := HK1.out; have := HK2.out; have := HK3.out; have := HJ9.out; omega
                   case rel => exact ⟨(y347), H', ⟨by have := HK1.out; have := HK2.out; have := HK3.out; have := HJ9.out; omega⟩, ⟨by (with_reducible repeat (first | apply Kd.R_alloc | apply Kd.R_drewN | apply Kd.R_drew)); exact Kd.R_mono HO349.out (fun _ hk => trivial)⟩, ⟨bl HB⟩⟩
                  ·rw [if_neg c40] at H
                   exact absurd H (by simp)
                 ·rw [if_neg c39] at H
                  exact absurd H (by simp)
                ·rw [if_neg c38] at H
                 exact absurd H (by simp)
               ·rw [if_neg c36] at H
                exact absurd H (by simp)
              ·rw [if_neg c35] at H
               exact absurd H (by simp)
             ·rw [if_neg c34] at H
              exact absurd H (by simp)
      ·rw [if_neg c8] at H
       have c8b0 : decide (0 < (x5_2.length : Int)) = false := decide_eq_false c8
       have c8b1 : decide (0 < x5_2.length) = false := decide_eq_false (by omega)
       clear c8
       obtain rfl := Option.some.inj H
       obtain ⟨Ao48, co48, eo48⟩ := Kd.R_slice HO_5.out
       subst eo48
       go_wp2
       go_ret
       exact ⟨by first | rfl | (simp [errW_none, errW_some] <;> rfl) | (simp [*, errW_none, errW_some] <;> rfl), by repeat (first | (with_reducible first | exact HB.out | apply below_alloc | apply pw_below_drewN | apply below_drew1) | exact HB.out)⟩
end Go.Proofs.Ytdpolfflemocaaa.Rx

/- The declarations of Fnx7 that the claim Qe needs. -/
import Derived.Test.YtilabipmgcpnjaaQeFnx0
namespace Go.Proofs.Ytilabipmgcpnjaa.Fn
open Go.RowKit Go.Proofs.Ytilabipmgcpnjaa.Own Go.Proofs.YtilabipmgcpnjaaW.PrintWords Go.Proofs.YtilabipmgcpnjaaW.PrintLast Go.Proofs.YtilabipmgcpnjaaW.PrintMore
attribute [local go_sem] max2_int min2_int max_two min_two max_three min_three max_four min_four
set_option linter.unusedVariables false
set_option linter.unusedSimpArgs false
mutual
def gamplaw07_made.l0 : Nat → List Int → Int → List (List Int) → Int → Int → Option ((List (List Int)))
  | 0, _, _, _, _, _ => none
  | k + 1, x1, x7, x8, x9, x10 => if x10 < x7 then (gamplaw07_made.l1 k x1 x7 x8 x9 x10 (([] : List Int)) (([] : List Int)) 0) else (some x8)
def gamplaw07_made.l1 : Nat → List Int → Int → List (List Int) → Int → Int → List Int → List Int → Int → Option ((List (List Int)))
  | 0, _, _, _, _, _, _, _, _ => none
  | k + 1, x1, x7, x8, x9, x10, x11, x12, x13 => if x13 < x7 then (if x13 = x10 then (gamplaw07_made.l1 k x1 x7 x8 x9 x10 x11 x12 (wrap64 (x13 + 1))) else (if x11.length < 17592186044416 then (gamplaw07_made.l1 k x1 x7 x8 x9 x10 (x11 ++ [x13]) x12 (wrap64 (x13 + 1))) else (none))) else (gamplaw07_made.l2 k x1 x7 x8 x9 x10 x11 x12)
def gamplaw07_made.l2 : Nat → List Int → Int → List (List Int) → Int → Int → List Int → List Int → Option ((List (List Int)))
  | 0, _, _, _, _, _, _, _ => none
  | k + 1, x1, x7, x8, x9, x10, x11, x12 => if (x11.length : Int) > 0 then (if x9 < (x1.length : Int) then (if 0 ≤ x9 then (if (x11.length : Int) = 0 then (none) else (if 0 ≤ (Int.tmod (wrap64 (rd x1 x9)) (x11.length : Int)) then (if (Int.tmod (wrap64 (rd x1 x9)) (x11.length : Int)) < (x11.length : Int) then (if x12.length < 17592186044416 then ((some (([] : List Int) : List Int)).bind fun y297 => (if (Int.tmod (wrap64 (rd x1 x9)) (x11.length : Int)) ≤ (x11.length : Int) then ((some (x11.take ((Int.tmod (wrap64 (rd x1 x9)) (x11.length : Int)) : Int).toNat : List Int)).bind fun y300 => (if y297.length + y300.length < 17592186044416 then ((some (y297 ++ y300 : List Int)).bind fun y304 => (if 0 ≤ (wrap64 ((Int.tmod (wrap64 (rd x1 x9)) (x11.length : Int)) + 1)) then (if (wrap64 ((Int.tmod (wrap64 (rd x1 x9)) (x11.length : Int)) + 1)) ≤ (x11.length : Int) then ((some (x11.drop ((wrap64 ((Int.tmod (wrap64 (rd x1 x9)) (x11.length : Int)) + 1)) : Int).toNat : List Int)).bind fun y307 => (if y304.length + y307.length < 17592186044416 then (gamplaw07_made.l2 k x1 x7 x8 (wrap64 (x9 + 1)) x10 (y304 ++ y307) (x12 ++ [rd x11 (Int.tmod (wrap64 (rd x1 x9)) (x11.length : Int))])) else (none))) else (none)) else (none))) else (none))) else (none))) else (none)) else (none)) else (none))) else (none)) else (if 0 < (x11.length : Int) then (if x12.length < 17592186044416 then ((some (([] : List Int) : List Int)).bind fun y318 => (if 0 ≤ (x11.length : Int) then ((some (x11.take 0 : List Int)).bind fun y321 => (if y318.length + y321.length < 17592186044416 then ((some (y318 ++ y321 : List Int)).bind fun y325 => (if 0 ≤ ((0 : Int) + 1) then (if (0 + 1) ≤ (x11.length : Int) then ((some (x11.drop ((0 + 1) : Int).toNat : List Int)).bind fun y328 => (if y325.length + y328.length < 17592186044416 then (gamplaw07_made.l2 k x1 x7 x8 (wrap64 (x9 + 1)) x10 (y325 ++ y328) (x12 ++ [rd x11 0])) else (none))) else (none)) else (none))) else (none))) else (none))) else (none)) else (none))) else (if x8.length < 5864062014805 then (gamplaw07_made.l0 k x1 x7 (x8 ++ [x12]) x9 (wrap64 (x10 + 1))) else (none))
end
def gamplaw07_made.f (k : Nat) (a0 : Int) (l1 : List Int) (a2 : Int) : Option ((List (List Int))) := if a2 = 0 then (none) else (gamplaw07_made.l0 k l1 (wrap64 ((Int.tmod (wrap64 (a0)) a2) + 1)) (([] : List (List Int))) 0 0)
def gamplaw07_made.T18 : Bool × List (List Nat × List Nat) := (true, [([], []), ([], []), ([], []), ([1, 2], [1, 2]), ([0, 3], [0, 3]), ([], []), ([], []), ([6], [6]), ([5, 7], [5, 7]), ([4, 8, 4], [4, 8]), ([9, 9, 0, 1, 2, 3, 4, 5, 6, 7, 8, 9], [1, 5, 9])])
def gamplaw07_made.B18 : List Nat := [0, 0, 0, 6, 15, 0, 0, 64, 224, 511, 1023]
theorem gamplaw07_made.tab18 : rtab .any (opsOf Try.f20 18) = gamplaw07_made.T18 := by kernel_rfl
theorem gamplaw07_made.bits18 : waitsOk gamplaw07_made.T18.2 gamplaw07_made.B18 = true := by kernel_rfl
set_option maxHeartbeats 8000000 in
set_option maxRecDepth 100000 in
theorem gamplaw07_made.calls (k : Nat) (a0 : Int) (A1 : Option Addr) (c1 : Nat) (l1 : List Int) (a2 : Int) (r : List (List Int)) (w : World) (hr1 : Kd.C (Kd.int .u16) w A1 l1.length l1) (hc1 : l1.length ≤ c1) (h : gamplaw07_made.f k a0 l1 a2 = some r) :
    Calls Try.prog 20 #[.int .u8 a0, .slice A1 l1.length c1, .int .i64 a2] w fun e w' => ∃ v0_ : Value, e = .returned (v0_) ∧ Kd.S (Kd.slice 3 (Kd.int .i64)) 24 w' w.heap.size (fun _ => True) v0_ r ∧ Below w.heap.size w w' := by
  have HR1 := Aside0.mk hr1
  have HC1 := Aside0.mk hc1
  clear hr1 hc1
  have HB := Aside0.mk (Below.refl w.heap.size w)
  have H : (if a2 = 0 then (none) else (gamplaw07_made.l0 k l1 (wrap64 ((Int.tmod (wrap64 (a0)) a2) + 1)) (([] : List (List Int))) 0 0)) = some r := h
  clear h
  by_cases c4 : a2 = 0
  · rw [if_pos c4] at H
    exact absurd H (by simp)
  · rw [if_neg c4] at H
    have c4b0 : (a2 == 0) = false := beq_eq_false_iff_ne.mpr c4
    have c4b1 : (a2 != 0) = true := bne_iff_ne.mpr c4
    obtain ⟨y280, hy280⟩ : ∃ y_ : List (List Int), y_ = (([] : List (List Int))) := ⟨_, rfl⟩
    replace H : (gamplaw07_made.l0 k l1 (wrap64 ((Int.tmod (wrap64 (a0)) a2) + 1)) y280 0 0) = some r := by first | (rw [hy280]; with_reducible exact H) | (have H2_ := (Option.bind_some _ _).symm.trans H; rw [hy280]; with_reducible exact H2_) | (have H2_ := (Option.bind_some _ _).symm.trans H; with_reducible exact H2_) | with_reducible exact H | (rw [hy280]; exact H) | exact H
    have Ny280 := Aside0.mk hy280
    clear hy280
    have H' := Aside0.mk H
    clear H
    go_enter Try.func20, Try.ntmps20
    go_wp2_with (first | ((with_reducible refine gate_dst (N := 20) rfl ?_); refine Kd.S_lit (Kd.slice 3 (Kd.int .i64)) _ 24 ?hg (N := 20) ?hd (xs := ([] : List (List Int))) (inner := []) (ok := fun _ => True) (okp := fun _ => True) ?hr ?hp (fun _ hk => hk) trivial (Below.refl _ _) (Nat.le_refl _) (by simp) ?_; (case hd => rfl); (case hg => rfl); (case hr => first | (go_simp; done) | (go_simp; rfl)); (case hp => exact (Reps.none _ _)); intro v281 w5 ho6 hb hg_ hnew_; clear hg_ hnew_; (first | rw [← Ny280.out] at ho6 | (simp only [Int.reduceToNat] at ho6; rw [← Ny280.out] at ho6)); have n0_ := Aside0.mk (Kd.S_lower ho6 (below_size (by repeat (first | (with_reducible first | exact HB.out | apply below_alloc | apply pw_below_drewN | apply below_drew1) | exact HB.out)))); have n1_ := Aside0.mk (below_step (by repeat (first | (with_reducible first | exact HB.out | apply below_alloc | apply pw_below_drewN | apply below_drew1) | exact HB.out)) hb); clear HB; have HO282 := n0_; have HB := n1_; clear n0_ n1_; clear hb ho6))
    go_loopg [8, 9, 10] k (fun kq v8 v9 v10 w' => ∃ (x8_1 : List (List Int)) (x9_1 : Int) (x10_1 : Int), v9 = .int .i64 x9_1 ∧ v10 = .int .i64 x10_1 ∧ Aside0 (gamplaw07_made.l0 kq l1 (wrap64 ((Int.tmod (wrap64 (a0)) a2) + 1)) x8_1 x9_1 x10_1 = some r) ∧ Aside0 (kq ≤ k) ∧ Aside0 (Kd.S (Kd.slice 3 (Kd.int .i64)) 24 w' w.heap.size (fun _ => True) v8 x8_1) ∧ Aside0 (Below w.heap.size w w'))
    case atStart => exact ⟨(y280), (0), (0), (by first | rfl | (simp; done) | (simp [*]; done)), (by first | rfl | (simp; done) | (simp [*]; done)), H', ⟨Nat.le_refl _⟩, ⟨by (with_reducible repeat (first | apply Kd.S_alloc | apply Kd.S_drewN | apply Kd.S_drew)); exact HO282.out⟩, ⟨by repeat (first | (with_reducible first | exact HB.out | apply below_alloc | apply pw_below_drewN | apply below_drew1) | exact HB.out)⟩⟩
    case round =>
      clear H'
      try clear c1
      try clear c2
      try clear p2
      try clear c4
      try clear c4b0
      try clear c4b1
      try clear p6
      obtain ⟨x8_1, x9_1, x10_1, rfl, rfl, HA, HK1, HO_8, HB⟩ := hrel
      cases gk with
      | zero => exact absurd HA.out (by simp [gamplaw07_made.l0])
      | succ k1 =>
        have H := HA.out
        clear HA
        simp only [gamplaw07_made.l0] at H
        by_cases c7 : x10_1 < (wrap64 ((Int.tmod (wrap64 (a0)) a2) + 1))
        · rw [if_pos c7] at H
          have c7b0 : decide (x10_1 < (wrap64 ((Int.tmod (wrap64 (a0)) a2) + 1))) = true := decide_eq_true c7
          clear c7
          obtain ⟨y283, hy283⟩ : ∃ y_ : List Int, y_ = (([] : List Int)) := ⟨_, rfl⟩
          replace H : (gamplaw07_made.l1 k1 l1 (wrap64 ((Int.tmod (wrap64 (a0)) a2) + 1)) x8_1 x9_1 x10_1 y283 (([] : List Int)) 0) = some r := by first | (rw [hy283]; with_reducible exact H) | (have H2_ := (Option.bind_some _ _).symm.trans H; rw [hy283]; with_reducible exact H2_) | (have H2_ := (Option.bind_some _ _).symm.trans H; with_reducible exact H2_) | with_reducible exact H | (rw [hy283]; exact H) | exact H
          have Ny283 := Aside0.mk hy283
          clear hy283
          obtain ⟨y286, hy286⟩ : ∃ y_ : List Int, y_ = (([] : List Int)) := ⟨_, rfl⟩
          replace H : (gamplaw07_made.l1 k1 l1 (wrap64 ((Int.tmod (wrap64 (a0)) a2) + 1)) x8_1 x9_1 x10_1 y283 y286 0) = some r := by first | (rw [hy286]; with_reducible exact H) | (have H2_ := (Option.bind_some _ _).symm.trans H; rw [hy286]; with_reducible exact H2_) | (have H2_ := (Option.bind_some _ _).symm.trans H; with_reducible exact H2_) | with_reducible exact H | (rw [hy286]; exact H) | exact H
          have Ny286 := Aside0.mk hy286
          clear hy286
          have H' := Aside0.mk H
          clear H
          go_wp2_with (first | ((with_reducible refine gate_dst (N := 26) rfl ?_); refine Kd.R_lit (Kd.int .i64) _ 3 ?hg (N := 26) ?hd (xs := ([] : List Int)) (inner := []) (ok := fun _ => True) (okp := fun _ => True) ?hr ?hp (fun _ hk => hk) trivial (Below.refl _ _) (Nat.le_refl _) (by simp) ?_; (case hd => rfl); (case hg => rfl); (case hr => first | (go_simp; done) | (go_simp; rfl)); (case hp => exact (Reps.none _ _)); intro v284 w8 ho9 hb hg_ hnew_; clear hg_ hnew_; (first | rw [← Ny283.out] at ho9 | (simp only [Int.reduceToNat] at ho9; rw [← Ny283.out] at ho9)); have n0_ := Aside0.mk (Kd.S_elder' (by (with_reducible repeat (first | apply Kd.S_alloc | apply Kd.S_drewN | apply Kd.S_drew)); exact HO_8.out) (Kd.R_base ho9) hb); have n1_ := Aside0.mk (Kd.R_lower ho9 (below_size (by repeat (first | (with_reducible first | exact HB.out | apply below_alloc | apply pw_below_drewN | apply below_drew1) | exact HB.out)))); have n2_ := Aside0.mk (below_step (by repeat (first | (with_reducible first | exact HB.out | apply below_alloc | apply pw_below_drewN | apply below_drew1) | exact HB.out)) hb); clear HO_8; clear HB; have HO_8 := n0_; have HO285 := n1_; have HB := n2_; clear n0_ n1_ n2_; clear hb ho9) | ((with_reducible refine gate_dst (N := 27) rfl ?_); refine Kd.R_lit (Kd.int .i64) _ 3 ?hg (N := 27) ?hd (xs := ([] : List Int)) (inner := []) (ok := fun _ => True) (okp := fun _ => True) ?hr ?hp (fun _ hk => hk) trivial (Below.refl _ _) (Nat.le_refl _) (by simp) ?_; (case hd => rfl); (case hg => rfl); (case hr => first | (go_simp; done) | (go_simp; rfl)); (case hp => exact (Reps.none _ _)); intro v287 w10 ho11 hb hg_ hnew_; clear hg_ hnew_; (first | rw [← Ny286.out] at ho11 | (simp only [Int.reduceToNat] at ho11; rw [← Ny286.out] at ho11)); have n0_ := Aside0.mk (Kd.S_elder' (by (with_reducible repeat (first | apply Kd.S_alloc | apply Kd.S_drewN | apply Kd.S_drew)); exact HO_8.out) (Kd.R_base ho11) hb); have n1_ := Aside0.mk (Kd.R_elder' (by (with_reducible repeat (first | apply Kd.R_alloc | apply Kd.R_drewN | apply Kd.R_drew)); exact HO285.out) (Kd.R_base ho11) hb); have n2_ := Aside0.mk (Kd.R_lower (Kd.R_new' ho11 (Kd.R_lt (by (with_reducible repeat (first | apply Kd.R_alloc | apply Kd.R_drewN | apply Kd.R_drew)); exact HO285.out))) (below_size (by repeat (first | (with_reducible first | exact HB.out | apply below_alloc | apply pw_below_drewN | apply below_drew1) | exact HB.out)))); have n3_ := Aside0.mk (below_step (by repeat (first | (with_reducible first | exact HB.out | apply below_alloc | apply pw_below_drewN | apply below_drew1) | exact HB.out)) hb); clear HO_8; clear HO285; clear HB; have HO_8 := n0_; have HO285 := n1_; have HO288 := n2_; have HB := n3_; clear n0_ n1_ n2_ n3_; clear hb ho11))
          go_loopg [11, 13] k1 (fun kq v11 v13 w' => ∃ (x11_2 : List Int) (x13_2 : Int), v13 = .int .i64 x13_2 ∧ Aside0 (gamplaw07_made.l1 kq l1 (wrap64 ((Int.tmod (wrap64 (a0)) a2) + 1)) x8_1 x9_1 x10_1 x11_2 y286 x13_2 = some r) ∧ Aside0 (kq ≤ k1) ∧ Aside0 (Kd.S (Kd.slice 3 (Kd.int .i64)) 24 w' w.heap.size (fun k_ => some k_ ≠ (v11 : Value).ownBlock ∧ some k_ ≠ (v287 : Value).ownBlock) u8 x8_1) ∧ Aside0 (Kd.R (Kd.int .i64) 3 w' w.heap.size (fun k_ => some k_ ≠ (v287 : Value).ownBlock) v11 x11_2) ∧ Aside0 (Kd.R (Kd.int .i64) 3 w' w.heap.size (fun k_ => some k_ ≠ (v11 : Value).ownBlock) v287 y286) ∧ Aside0 (Below w.heap.size w w'))
          case atStart => exact ⟨(y283), (0), (by first | rfl | (simp; done) | (simp [*]; done)), H', ⟨Nat.le_refl _⟩, ⟨by (with_reducible repeat (first | apply Kd.S_alloc | apply Kd.S_drewN | apply Kd.S_drew)); exact Kd.S_mono HO_8.out (fun _ hk => ⟨hk.1.2, hk.2⟩)⟩, ⟨by (with_reducible repeat (first | apply Kd.R_alloc | apply Kd.R_drewN | apply Kd.R_drew)); exact Kd.R_mono HO285.out (fun _ hk => hk.2)⟩, ⟨by (with_reducible repeat (first | apply Kd.R_alloc | apply Kd.R_drewN | apply Kd.R_drew)); exact Kd.R_mono HO288.out (fun _ hk => hk.2)⟩, ⟨by repeat (first | (with_reducible first | exact HB.out | apply below_alloc | apply pw_below_drewN | apply below_drew1) | exact HB.out)⟩⟩
          case round =>
            clear H'
            try clear c1
            try clear c2
            try clear p2
            try clear c4
            try clear c4b0
            try clear c4b1
            try clear p6
            try clear c7
            try clear c7b0
            try clear p2
            try clear p6
            obtain ⟨x11_2, x13_2, rfl, HA, HK2, HO_8, HO_11, HO_12, HB⟩ := hrel
            cases gk with
            | zero => exact absurd HA.out (by simp [gamplaw07_made.l1])
            | succ k2 =>
              have H := HA.out
              clear HA
              simp only [gamplaw07_made.l1] at H
              by_cases c12 : x13_2 < (wrap64 ((Int.tmod (wrap64 (a0)) a2) + 1))
              · rw [if_pos c12] at H
                have c12b0 : decide (x13_2 < (wrap64 ((Int.tmod (wrap64 (a0)) a2) + 1))) = true := decide_eq_true c12
                clear c12
                by_cases c13 : x13_2 = x10_1
                · rw [if_pos c13] at H
                  have c13b0 : (x13_2 == x10_1) = true := beq_iff_eq.mpr c13
                  have c13b1 : (x13_2 != x10_1) = false := bne_eq_false_iff_eq.mpr c13
                  clear c13
                  have H' := Aside0.mk H
                  clear H
                  go_wp2
                  go_roundg k2
                  case measure => have := HK1.out; have := HK2.out; omega
                  case rel => exact ⟨(x11_2), (wrap64 (x13_2 + 1)), (by first | rfl | (simp; done) | (simp [*]; done)), H', ⟨by have := HK1.out; have := HK2.out; omega⟩, ⟨by (with_reducible repeat (first | apply Kd.S_alloc | apply Kd.S_drewN | apply Kd.S_drew)); exact HO_8.out⟩, ⟨by (with_reducible repeat (first | apply Kd.R_alloc | apply Kd.R_drewN | apply Kd.R_drew)); exact HO_11.out⟩, ⟨by (with_reducible repeat (first | apply Kd.R_alloc | apply Kd.R_drewN | apply Kd.R_drew)); exact HO_12.out⟩, ⟨by repeat (first | (with_reducible first | exact HB.out | apply below_alloc | apply pw_below_drewN | apply below_drew1) | exact HB.out)⟩⟩
                · rw [if_neg c13] at H
                  have c13b0 : (x13_2 == x10_1) = false := beq_eq_false_iff_ne.mpr c13
                  have c13b1 : (x13_2 != x10_1) = true := bne_iff_ne.mpr c13
                  by_cases c14 : x11_2.length < 17592186044416
                  · rw [if_pos c14] at H
                    have LMc14 := Aside0.mk c14
                    clear c14
                    obtain ⟨y289, hy289⟩ : ∃ y_ : List Int, y_ = (x11_2 ++ [x13_2]) := ⟨_, rfl⟩
                    replace H : (gamplaw07_made.l1 k2 l1 (wrap64 ((Int.tmod (wrap64 (a0)) a2) + 1)) x8_1 x9_1 x10_1 y289 y286 (wrap64 (x13_2 + 1))) = some r := by first | (rw [hy289]; with_reducible exact H) | (have H2_ := (Option.bind_some _ _).symm.trans H; rw [hy289]; with_reducible exact H2_) | (have H2_ := (Option.bind_some _ _).symm.trans H; with_reducible exact H2_) | with_reducible exact H | (rw [hy289]; exact H) | exact H
                    have Ny289 := Aside0.mk hy289
                    clear hy289
                    have H' := Aside0.mk H
                    clear H
                    go_wp2_with (first | ((with_reducible refine gate_builtin (b := .append) (xs := #[.tmp 36, .tmp 38]) rfl ?_); at_builtin; refine Kd.R_append (Kd.int .i64) (w0 := w) w.heap.size rfl (.tmp 36) (.tmp 38) 24 3 (.int .i64 0) 8 rfl Try.underlying24 info3 rfl (by decide) (by omega) u11 x11_2 x13_2 [.int .i64 x13_2] (fun k_ => some k_ ≠ (v287 : Value).ownBlock) (fun _ => False) rfl rfl ?aP (fun _ hk => hk.elim) ?aF ?aO ?aB ?aS ?aL ?_; (case aP => exact rfl); (case aB => exact (by repeat (first | (with_reducible first | exact HB.out | apply below_alloc | apply pw_below_drewN | apply below_drew1) | exact HB.out))); (case aF => exact (fun k_ hk => Kd.fresh' (Kd.R_lt (by (with_reducible repeat (first | apply Kd.R_alloc | apply Kd.R_drewN | apply Kd.R_drew)); exact HO_12.out)) k_ hk)); (case aO => exact (by (with_reducible repeat (first | apply Kd.R_alloc | apply Kd.R_drewN | apply Kd.R_drew)); exact HO_11.out)); (case aS => exact (below_size (by repeat (first | (with_reducible first | exact HB.out | apply below_alloc | apply pw_below_drewN | apply below_drew1) | exact HB.out)))); (case aL => have := LMc14.out; omega); intro v290 w15 ho hb hg hat; rw [← Ny289.out] at ho; have n0_ := Aside0.mk (Kd.S_after (ok := (fun k_ => some k_ ≠ (v287 : Value).ownBlock)) (by (with_reducible repeat (first | apply Kd.S_alloc | apply Kd.S_drewN | apply Kd.S_drew)); exact Kd.S_mono HO_8.out (fun _ hk => ⟨hk.2, hk.1⟩)) hg hat); have n1_ := Aside0.mk (Kd.R_after (ok := (fun _ => True)) (by (with_reducible repeat (first | apply Kd.R_alloc | apply Kd.R_drewN | apply Kd.R_drew)); exact Kd.R_mono HO_12.out (fun _ hk => ⟨trivial, hk⟩)) hg hat); have n2_ := Aside0.mk (hb); have n3_ := Aside0.mk (ho); clear HO_8; clear HO_12; clear HB; clear HO_11; have HO_8 := n0_; have HO_12 := n1_; have HB := n2_; have HO291 := n3_; clear n0_ n1_ n2_ n3_; clear ho hb hg hat))
                    go_roundg k2
                    case measure => have := HK1.out; have := HK2.out; omega
                    case rel => exact ⟨(y289), (wrap64 (x13_2 + 1)), (by first | rfl | (simp; done) | (simp [*]; done)), H', ⟨by have := HK1.out; have := HK2.out; omega⟩, ⟨by (with_reducible repeat (first | apply Kd.S_alloc | apply Kd.S_drewN | apply Kd.S_drew)); exact Kd.S_mono HO_8.out (fun _ hk => ⟨hk.2, hk.1⟩)⟩, ⟨by (with_reducible repeat (first | apply Kd.R_alloc | apply Kd.R_drewN | apply Kd.R_drew)); exact HO291.out⟩, ⟨by (with_reducible repeat (first | apply Kd.R_alloc | apply Kd.R_drewN | apply Kd.R_drew)); exact Kd.R_mono HO_12.out (fun _ hk => hk.2)⟩, ⟨by repeat (first | (with_reducible first | exact HB.out | apply below_alloc | apply pw_below_drewN | apply below_drew1) | exact HB.out)⟩⟩
                  · rw [if_neg c14] at H
                    exact absurd H (by simp)
              · rw [if_neg c12] at H
                have c12b0 : decide (x13_2 < (wrap64 ((Int.tmod (wrap64 (a0)) a2) + 1))) = false := decide_eq_false c12
                clear c12
                have H' := Aside0.mk H
                clear H
                go_wp2
                go_loopg [9, 11, 12] k2 (fun kq v9 v11 v12 w' => ∃ (x9_3 : Int) (x11_3 : List Int) (x12_3 : List Int), v9 = .int .i64 x9_3 ∧ Aside0 (gamplaw07_made.l2 kq l1 (wrap64 ((Int.tmod (wrap64 (a0)) a2) + 1)) x8_1 x9_3 x10_1 x11_3 x12_3 = some r) ∧ Aside0 (kq ≤ k2) ∧ Aside0 (Kd.S (Kd.slice 3 (Kd.int .i64)) 24 w' w.heap.size (fun k_ => some k_ ≠ (v11 : Value).ownBlock ∧ some k_ ≠ (v12 : Value).ownBlock) u8 x8_1) ∧ Aside0 (Kd.R (Kd.int .i64) 3 w' w.heap.size (fun k_ => some k_ ≠ (v12 : Value).ownBlock) v11 x11_3) ∧ Aside0 (Kd.R (Kd.int .i64) 3 w' w.heap.size (fun k_ => some k_ ≠ (v11 : Value).ownBlock) v12 x12_3) ∧ Aside0 (Below w.heap.size w w'))
                case atStart => exact ⟨(x9_1), (x11_2), (y286), (by first | rfl | (simp; done) | (simp [*]; done)), H', ⟨Nat.le_refl _⟩, ⟨by (with_reducible repeat (first | apply Kd.S_alloc | apply Kd.S_drewN | apply Kd.S_drew)); exact HO_8.out⟩, ⟨by (with_reducible repeat (first | apply Kd.R_alloc | apply Kd.R_drewN | apply Kd.R_drew)); exact HO_11.out⟩, ⟨by (with_reducible repeat (first | apply Kd.R_alloc | apply Kd.R_drewN | apply Kd.R_drew)); exact HO_12.out⟩, ⟨by repeat (first | (with_reducible first | exact HB.out | apply below_alloc | apply pw_below_drewN | apply below_drew1) | exact HB.out)⟩⟩
                case round =>
                  clear H'
                  try clear c1
                  try clear c2
                  try clear p2
                  try clear c4
                  try clear c4b0
                  try clear c4b1
                  try clear p6
                  try clear c7
                  try clear c7b0
                  try clear c12
                  try clear c12b0
                  try clear c13
                  try clear c13b0
                  try clear c13b1
                  try clear c14
                  try clear p2
                  try clear p6
                  obtain ⟨x9_3, x11_3, x12_3, rfl, HA, HK3, HO_8, HO_11, HO_12, HB⟩ := hrel
                  cases gk with
                  | zero => exact absurd HA.out (by simp [gamplaw07_made.l2])
                  | succ k3 =>
                    have H := HA.out
                    clear HA
                    simp only [gamplaw07_made.l2] at H
                    by_cases c16 : (x11_3.length : Int) > 0
                    · rw [if_pos c16] at H
                      have c16b0 : decide (0 < (x11_3.length : Int)) = true := decide_eq_true c16
                      have c16b1 : decide (0 < x11_3.length) = true := decide_eq_true (by omega)
                      clear c16
                      by_cases c17 : x9_3 < (l1.length : Int)
                      · rw [if_pos c17] at H
                        have c17b0 : decide (x9_3 < (l1.length : Int)) = true := decide_eq_true c17
                        clear c17
                        by_cases c18 : 0 ≤ x9_3
                        · rw [if_pos c18] at H
                          have c18b0 : decide (0 ≤ x9_3) = true := decide_eq_true c18
                          clear c18
                          by_cases c19 : (x11_3.length : Int) = 0
                          · rw [if_pos c19] at H
                            exact absurd H (by simp)
                          · rw [if_neg c19] at H
                            have c19b0 : ((x11_3.length : Int) == 0) = false := beq_eq_false_iff_ne.mpr c19
                            have c19b1 : ((x11_3.length : Int) != 0) = true := bne_iff_ne.mpr c19
                            have c19b2 : ¬ (x11_3 = []) := fun h_ => c19 (by rw [h_]; rfl)
                            obtain ⟨ji20, hji20⟩ : ∃ j_ : Int, (Int.tmod (wrap64 (rd l1 x9_3)) (x11_3.length : Int)) = j_ := ⟨_, rfl⟩
                            replace H : (if 0 ≤ (ji20) then (if (ji20) < (x11_3.length : Int) then (if x12_3.length < 17592186044416 then ((some (([] : List Int) : List Int)).bind fun y297 => (if (ji20) ≤ (x11_3.length : Int) then ((some (x11_3.take ((ji20) : Int).toNat : List Int)).bind fun y300 => (if y297.length + y300.length < 17592186044416 then ((some (y297 ++ y300 : List Int)).bind fun y304 => (if 0 ≤ (wrap64 ((ji20) + 1)) then (if (wrap64 ((ji20) + 1)) ≤ (x11_3.length : Int) then ((some (x11_3.drop ((wrap64 ((ji20) + 1)) : Int).toNat : List Int)).bind fun y307 => (if y304.length + y307.length < 17592186044416 then (gamplaw07_made.l2 k3 l1 (wrap64 ((Int.tmod (wrap64 (a0)) a2) + 1)) x8_1 (wrap64 (x9_3 + 1)) x10_1 (y304 ++ y307) (x12_3 ++ [rd x11_3 (ji20)])) else (none))) else (none)) else (none))) else (none))) else (none))) else (none)) else (none)) else (none)) = some r := by first | (rw [hji20] at H; exact H) | (simp only [hji20] at H ⊢; exact H)
                            by_cases c21 : 0 ≤ (ji20)
                            · rw [if_pos c21] at H
                              have c21b0 : decide (0 ≤ (ji20)) = true := decide_eq_true c21
                              clear c21
                              by_cases c22 : (ji20) < (x11_3.length : Int)
                              · rw [if_pos c22] at H
                                have c22b0 : decide ((ji20) < (x11_3.length : Int)) = true := decide_eq_true c22
                                clear c22
                                by_cases c23 : x12_3.length < 17592186044416
                                · rw [if_pos c23] at H
                                  have LMc23 := Aside0.mk c23
                                  clear c23
                                  obtain ⟨y294, hy294⟩ : ∃ y_ : List Int, y_ = (x12_3 ++ [rd x11_3 (ji20)]) := ⟨_, rfl⟩
                                  replace H : ((some (([] : List Int) : List Int)).bind fun y297 => (if (ji20) ≤ (x11_3.length : Int) then ((some (x11_3.take ((ji20) : Int).toNat : List Int)).bind fun y300 => (if y297.length + y300.length < 17592186044416 then ((some (y297 ++ y300 : List Int)).bind fun y304 => (if 0 ≤ (wrap64 ((ji20) + 1)) then (if (wrap64 ((ji20) + 1)) ≤ (x11_3.length : Int) then ((some (x11_3.drop ((wrap64 ((ji20) + 1)) : Int).toNat : List Int)).bind fun y307 => (if y304.length + y307.length < 17592186044416 then (gamplaw07_made.l2 k3 l1 (wrap64 ((Int.tmod (wrap64 (a0)) a2) + 1)) x8_1 (wrap64 (x9_3 + 1)) x10_1 (y304 ++ y307) y294) else (none))) else (none)) else (none))) else (none))) else (none))) = some r := by first | (rw [hy294]; with_reducible exact H) | (have H2_ := (Option.bind_some _ _).symm.trans H; rw [hy294]; with_reducible exact H2_) | (have H2_ := (Option.bind_some _ _).symm.trans H; with_reducible exact H2_) | with_reducible exact H | (rw [hy294]; exact H) | exact H
                                  have Ny294 := Aside0.mk hy294
                                  clear hy294
                                  obtain ⟨y297, hy297⟩ : ∃ y_ : List Int, y_ = (([] : List Int)) := ⟨_, rfl⟩
                                  replace H : (if (ji20) ≤ (x11_3.length : Int) then ((some (x11_3.take ((ji20) : Int).toNat : List Int)).bind fun y300 => (if y297.length + y300.length < 17592186044416 then ((some (y297 ++ y300 : List Int)).bind fun y304 => (if 0 ≤ (wrap64 ((ji20) + 1)) then (if (wrap64 ((ji20) + 1)) ≤ (x11_3.length : Int) then ((some (x11_3.drop ((wrap64 ((ji20) + 1)) : Int).toNat : List Int)).bind fun y307 => (if y304.length + y307.length < 17592186044416 then (gamplaw07_made.l2 k3 l1 (wrap64 ((Int.tmod (wrap64 (a0)) a2) + 1)) x8_1 (wrap64 (x9_3 + 1)) x10_1 (y304 ++ y307) y294) else (none))) else (none)) else (none))) else (none))) else (none)) = some r := by first | (rw [hy297]; with_reducible exact H) | (have H2_ := (Option.bind_some _ _).symm.trans H; rw [hy297]; with_reducible exact H2_) | (have H2_ := (Option.bind_some _ _).symm.trans H; with_reducible exact H2_) | with_reducible exact H | (rw [hy297]; exact H) | exact H
                                  have Ny297 := Aside0.mk hy297
                                  clear hy297
                                  have c24b0 := eq_true (of_decide_eq_true (by first | (with_reducible assumption) | assumption) : 0 ≤ (ji20))
                                  by_cases c25 : (ji20) ≤ (x11_3.length : Int)
                                  · rw [if_pos c25] at H
                                    have c25b0 := eq_true c25
                                    have c25b1 : decide ((ji20) ≤ (x11_3.length : Int)) = true := decide_eq_true c25
                                    clear c25
                                    obtain ⟨y300, hy300⟩ : ∃ y_ : List Int, y_ = (x11_3.take ((ji20) : Int).toNat) := ⟨_, rfl⟩
                                    replace H : (if y297.length + y300.length < 17592186044416 then ((some (y297 ++ y300 : List Int)).bind fun y304 => (if 0 ≤ (wrap64 ((ji20) + 1)) then (if (wrap64 ((ji20) + 1)) ≤ (x11_3.length : Int) then ((some (x11_3.drop ((wrap64 ((ji20) + 1)) : Int).toNat : List Int)).bind fun y307 => (if y304.length + y307.length < 17592186044416 then (gamplaw07_made.l2 k3 l1 (wrap64 ((Int.tmod (wrap64 (a0)) a2) + 1)) x8_1 (wrap64 (x9_3 + 1)) x10_1 (y304 ++ y307) y294) else (none))) else (none)) else (none))) else (none)) = some r := by first | (rw [hy300]; with_reducible exact H) | (have H2_ := (Option.bind_some _ _).symm.trans H; rw [hy300]; with_reducible exact H2_) | (have H2_ := (Option.bind_some _ _).symm.trans H; with_reducible exact H2_) | with_reducible exact H | (rw [hy300]; exact H) | exact H
                                    have Ny300 := Aside0.mk hy300
                                    clear hy300
                                    by_cases c26 : y297.length + y300.length < 17592186044416
                                    · rw [if_pos c26] at H
                                      have LMc26 := Aside0.mk c26
                                      clear c26
                                      obtain ⟨y304, hy304⟩ : ∃ y_ : List Int, y_ = (y297 ++ y300) := ⟨_, rfl⟩
                                      replace H : (if 0 ≤ (wrap64 ((ji20) + 1)) then (if (wrap64 ((ji20) + 1)) ≤ (x11_3.length : Int) then ((some (x11_3.drop ((wrap64 ((ji20) + 1)) : Int).toNat : List Int)).bind fun y307 => (if y304.length + y307.length < 17592186044416 then (gamplaw07_made.l2 k3 l1 (wrap64 ((Int.tmod (wrap64 (a0)) a2) + 1)) x8_1 (wrap64 (x9_3 + 1)) x10_1 (y304 ++ y307) y294) else (none))) else (none)) else (none)) = some r := by first | (rw [hy304]; with_reducible exact H) | (have H2_ := (Option.bind_some _ _).symm.trans H; rw [hy304]; with_reducible exact H2_) | (have H2_ := (Option.bind_some _ _).symm.trans H; with_reducible exact H2_) | with_reducible exact H | (rw [hy304]; exact H) | exact H
                                      have Ny304 := Aside0.mk hy304
                                      clear hy304
                                      obtain ⟨ji27, hji27⟩ : ∃ j_ : Int, (wrap64 ((ji20) + 1)) = j_ := ⟨_, rfl⟩
                                      replace H : (if 0 ≤ (ji27) then (if (ji27) ≤ (x11_3.length : Int) then ((some (x11_3.drop ((ji27) : Int).toNat : List Int)).bind fun y307 => (if y304.length + y307.length < 17592186044416 then (gamplaw07_made.l2 k3 l1 (wrap64 ((Int.tmod (wrap64 (a0)) a2) + 1)) x8_1 (wrap64 (x9_3 + 1)) x10_1 (y304 ++ y307) y294) else (none))) else (none)) else (none)) = some r := by first | (rw [hji27] at H; exact H) | (simp only [hji27] at H ⊢; exact H)
                                      have hji27w : (IntKind.i64.wrap ((ji20) + 1)) = ji27 := (i64_w _).trans hji27
                                      by_cases c28 : 0 ≤ (ji27)
                                      · rw [if_pos c28] at H
                                        have c28b0 := eq_true c28
                                        have c28b1 : decide (0 ≤ (ji27)) = true := decide_eq_true c28
                                        clear c28
                                        by_cases c29 : (ji27) ≤ (x11_3.length : Int)
                                        · rw [if_pos c29] at H
                                          have c29b0 := eq_true c29
                                          have c29b1 : decide ((ji27) ≤ (x11_3.length : Int)) = true := decide_eq_true c29
                                          clear c29
                                          obtain ⟨y307, hy307⟩ : ∃ y_ : List Int, y_ = (x11_3.drop ((ji27) : Int).toNat) := ⟨_, rfl⟩
                                          replace H : (if y304.length + y307.length < 17592186044416 then (gamplaw07_made.l2 k3 l1 (wrap64 ((Int.tmod (wrap64 (a0)) a2) + 1)) x8_1 (wrap64 (x9_3 + 1)) x10_1 (y304 ++ y307) y294) else (none)) = some r := by first | (rw [hy307]; with_reducible exact H) | (have H2_ := (Option.bind_some _ _).symm.trans H; rw [hy307]; with_reducible exact H2_) | (have H2_ := (Option.bind_some _ _).symm.trans H; with_reducible exact H2_) | with_reducible exact H | (rw [hy307]; exact H) | exact H
                                          have Ny307 := Aside0.mk hy307
                                          clear hy307
                                          by_cases c30 : y304.length + y307.length < 17592186044416
                                          · rw [if_pos c30] at H
                                            have LMc30 := Aside0.mk c30
                                            clear c30
                                            obtain ⟨y311, hy311⟩ : ∃ y_ : List Int, y_ = (y304 ++ y307) := ⟨_, rfl⟩
                                            replace H : (gamplaw07_made.l2 k3 l1 (wrap64 ((Int.tmod (wrap64 (a0)) a2) + 1)) x8_1 (wrap64 (x9_3 + 1)) x10_1 y311 y294) = some r := by first | (rw [hy311]; with_reducible exact H) | (have H2_ := (Option.bind_some _ _).symm.trans H; rw [hy311]; with_reducible exact H2_) | (have H2_ := (Option.bind_some _ _).symm.trans H; with_reducible exact H2_) | with_reducible exact H | (rw [hy311]; exact H) | exact H
                                            have Ny311 := Aside0.mk hy311
                                            clear hy311
                                            have H' := Aside0.mk H
                                            clear H
                                            obtain ⟨Ao31, co31, eo31⟩ := Kd.R_slice HO_11.out
                                            subst eo31
                                            have p292 : 0 ≤ (x9_3 : Int) := of_decide_eq_true (by first | (with_reducible assumption) | assumption)
                                            have q292 : x9_3 < (l1.length : Int) := of_decide_eq_true (by first | (with_reducible assumption) | assumption)
                                            obtain ⟨ad292, e292, hx292_0⟩ := Kd.at_int HR1.out x9_3 p292 q292
                                            cases e292
                                            replace hx292_0 := (HB.out.cell (World.block_lt_of_cell? w _ hx292_0)).trans hx292_0
                                            replace p292 := eq_true p292
                                            replace q292 := eq_true q292
                                            have p293 : 0 ≤ ((ji20) : Int) := of_decide_eq_true (by first | (with_reducible assumption) | assumption)
                                            have q293 : (ji20) < (x11_3.length : Int) := of_decide_eq_true (by first | (with_reducible assumption) | assumption)
                                            obtain ⟨ad293, e293, hx293_0⟩ := Kd.at_int (Kd.R_reads' HO_11.out).2.2 (ji20) p293 q293
                                            cases e293
                                            replace p293 := eq_true p293
                                            replace q293 := eq_true q293
                                            try go_wp2_with (first | ((with_reducible refine gate_builtin (b := .append) (xs := #[.tmp 57, .tmp 62]) rfl ?_); at_builtin; refine Kd.R_append (Kd.int .i64) (w0 := w) w.heap.size rfl (.tmp 57) (.tmp 62) 24 3 (.int .i64 0) 8 rfl Try.underlying24 info3 rfl (by decide) (by omega) u12 x12_3 (rd x11_3 (ji20)) [.int .i64 (rd x11_3 (ji20))] (fun k_ => some k_ ≠ (.slice (some ad293) x11_3.length co31 : Value).ownBlock) (fun _ => False) rfl rfl ?aP (fun _ hk => hk.elim) ?aF ?aO ?aB ?aS ?aL ?_; (case aP => exact rfl); (case aB => exact (by repeat (first | (with_reducible first | exact HB.out | apply below_alloc | apply pw_below_drewN | apply below_drew1) | exact HB.out))); (case aF => exact (fun k_ hk => Kd.fresh' (Kd.R_lt (by (with_reducible repeat (first | apply Kd.R_alloc | apply Kd.R_drewN | apply Kd.R_drew)); exact HO_11.out)) k_ hk)); (case aO => exact (by (with_reducible repeat (first | apply Kd.R_alloc | apply Kd.R_drewN | apply Kd.R_drew)); exact HO_12.out)); (case aS => exact (below_size (by repeat (first | (with_reducible first | exact HB.out | apply below_alloc | apply pw_below_drewN | apply below_drew1) | exact HB.out)))); (case aL => have := LMc23.out; omega); intro v295 w32 ho hb hg hat; rw [← Ny294.out] at ho; have n0_ := Aside0.mk (Kd.S_after (ok := (fun k_ => some k_ ≠ (.slice (some ad293) x11_3.length co31 : Value).ownBlock)) (by (with_reducible repeat (first | apply Kd.S_alloc | apply Kd.S_drewN | apply Kd.S_drew)); exact HO_8.out) hg hat); have n1_ := Aside0.mk (Kd.R_after (ok := (fun _ => True)) (by (with_reducible repeat (first | apply Kd.R_alloc | apply Kd.R_drewN | apply Kd.R_drew)); exact Kd.R_mono HO_11.out (fun _ hk => ⟨trivial, hk⟩)) hg hat); have n2_ := Aside0.mk (hb); have n3_ := Aside0.mk (ho); clear HO_8; clear HO_11; clear HB; clear HO_12; have HO_8 := n0_; have HO_11 := n1_; have HB := n2_; have HO296 := n3_; clear n0_ n1_ n2_ n3_; clear ho hb hg hat))
                                            have n0_ := Aside0.mk (Kd.S_drew HO_8.out)
                                            have n1_ := Aside0.mk (Kd.R_drew HO_11.out)
                                            have n2_ := Aside0.mk (Kd.R_drew HO296.out)
                                            have n3_ := Aside0.mk (below_drew1 HB.out)
                                            clear HO_8
                                            clear HO_11
                                            clear HO296
                                            clear HB
                                            have HO_8 := n0_
                                            have HO_11 := n1_
                                            have HO296 := n2_
                                            have HB := n3_
                                            clear n0_ n1_ n2_ n3_
                                            have q34 : ((ji20) : Int) ≤ ((x11_3.length : Int) : Int) := of_decide_eq_true (by first | (with_reducible assumption) | assumption)
                                            obtain ⟨i034, hi034, _, hsz34, _⟩ := info_parts info3
                                            have hroom34 : x11_3.length ≤ co31 := (Kd.R_reads' HO_11.out).2.1
                                            have hC34 : Kd.C (Kd.int .i64) _ (some ad293) x11_3.length x11_3 := (Kd.R_reads' HO_11.out).2.2
                                            have hcut34 := cut_to (P := Try.prog) 24 3 .i64 Try.underlying24 hi034 (some ad293) x11_3.length co31 (ji20) (of_decide_eq_true (by first | (with_reducible assumption) | assumption)) q34 hroom34
                                            have hr34 := Kd.C_take (m := ((ji20) : Int).toNat) hC34 (by omega)
                                            have hy34 : y300.length = ((ji20) : Int).toNat := (by rw [Ny300.out, List.length_take]; omega)
                                            rw [← Ny300.out] at hr34
                                            rw [← hy34] at hcut34
                                            have HR303 := Aside0.mk hr34
                                            have HC303 := Aside0.mk (show y300.length ≤ co31 from by omega)
                                            clear hr34 hC34 hroom34 hi034 hsz34
                                            have KY34 := Aside0.mk hy34
                                            clear hy34
                                            have KL34 := Aside0.mk (show ((ji20) : Int).toNat ≤ x11_3.length from by omega)
                                            replace q34 := eq_true q34
                                            have q35 : ((ji27) : Int) ≤ ((x11_3.length : Int) : Int) := of_decide_eq_true (by first | (with_reducible assumption) | assumption)
                                            obtain ⟨i035, hi035, _, hsz35, _⟩ := info_parts info3
                                            have hroom35 : x11_3.length ≤ co31 := (Kd.R_reads' HO_11.out).2.1
                                            have hC35 : Kd.C (Kd.int .i64) _ (some ad293) x11_3.length x11_3 := (Kd.R_reads' HO_11.out).2.2
                                            have q035 : (0 : Int) ≤ ((ji27) : Int) := of_decide_eq_true (by first | (with_reducible assumption) | assumption)
                                            have hcut35 := cut_from (P := Try.prog) 24 3 .i64 Try.underlying24 hi035 1 hsz35 (some ad293) x11_3.length co31 (ji27) q035 q35
                                            have hr35 := Kd.C_drop (m := ((ji27) : Int).toNat) (c := co31) hC35 (by omega) hroom35
                                            obtain ⟨A35, hA35⟩ : ∃ A1, A1 = (if co31 = ((ji27) : Int).toNat then (some ad293) else ((some ad293) : Option Addr).map (·.add (((ji27) : Int).toNat * 1))) := ⟨_, rfl⟩
                                            obtain ⟨c35, hc35⟩ : ∃ c1, c1 = co31 - ((ji27) : Int).toNat := ⟨_, rfl⟩
                                            have hy35 : y307.length = x11_3.length - ((ji27) : Int).toNat := (by rw [Ny307.out, List.length_drop] <;> omega)
                                            rw [show (x11_3).drop ((ji27) : Int).toNat = y307 from Ny307.out.symm] at hr35
                                            replace hr35 : Kd.C (Kd.int .i64) _ A35 y307.length y307 := (by rw [hA35]; exact hr35)
                                            rw [← hy35, ← hA35, ← hc35] at hcut35
                                            have HR310 := Aside0.mk hr35
                                            have HC310 := Aside0.mk (show y307.length ≤ c35 from by rw [hy35, hc35]; exact Nat.sub_le_sub_right hroom35 _)
                                            clear hr35 hC35 hroom35 hi035 hsz35 hc35
                                            have KY35 := Aside0.mk hy35
                                            have KA35 := Aside0.mk hA35
                                            clear hy35 hA35
                                            have KL35 := Aside0.mk (show ((ji27) : Int).toNat ≤ x11_3.length from by omega)
                                            replace q35 := eq_true q35
                                            refine start_ (n := 11) (S := fun w' => True) (ds := []) #[false, false, false, false, false, false, false, false, false, false, false] (by kernel_rfl) rfl rfl trivial (fun hHeld => ?_); refine with_tabW gamplaw07_made.tab18 gamplaw07_made.bits18 (fun HT_ HW_ => ?_)
                                            generalize w32.drew = w33 at HO_8 HO_11 HO296 HB HR303 HR310 hHeld ⊢
                                            refine pure_ (i := 1) (N := some 65) (v := ?_) (a' := ?_) #[false, true, false, false, false, false, false, false, false, false, false] rfl rfl (any_of HT_.out (by kernel_rfl)) (fun _ _ _ h => h) (Or.inl ⟨by rfl, ?_⟩) ?_ ?_
                                            rotate_left
                                            · intro w'
                                              go_simp
                                              with_reducible rfl
                                            rotate_left
                                            · simp only [Act.put, List.setIfInBounds_toArray, List.set_cons_zero, List.set_cons_succ, i64_w, i32_w]
                                              rfl
                                            refine pure_ (i := 2) (N := some 66) (v := ?_) (a' := ?_) #[false, true, true, false, false, false, false, false, false, false, false] rfl rfl (any_of HT_.out (by kernel_rfl)) (fun _ _ _ h => h) (Or.inl ⟨by rfl, ?_⟩) ?_ ?_
                                            rotate_left
                                            · intro w'
                                              go_simp
                                              with_reducible rfl
                                            rotate_left
                                            · simp only [Act.put, List.setIfInBounds_toArray, List.set_cons_zero, List.set_cons_succ, i64_w, i32_w]
                                              rfl
                                            refine pure_ (i := 3) (N := some 67) (v := ?_) (a' := ?_) #[false, true, true, true, false, false, false, false, false, false, false] rfl rfl (any_of HT_.out (by kernel_rfl)) (fun _ _ _ h => h) (Or.inl ⟨by rfl, ?_⟩) ?_ ?_
                                            rotate_left
                                            · intro w'
                                              go_simp
                                              with_reducible rfl
                                            rotate_left
                                            · simp only [Act.put, List.setIfInBounds_toArray, List.set_cons_zero, List.set_cons_succ, i64_w, i32_w]
                                              rfl
                                            refine pure_ (i := 5) (N := some 69) (v := ?_) (a' := ?_) #[false, true, true, true, false, true, false, false, false, false, false] rfl rfl (any_of HT_.out (by kernel_rfl)) (fun _ _ _ h => h) (Or.inl ⟨by rfl, ?_⟩) ?_ ?_
                                            rotate_left
                                            · intro w'
                                              go_simp
                                              with_reducible rfl
                                            rotate_left
                                            · simp only [Act.put, List.setIfInBounds_toArray, List.set_cons_zero, List.set_cons_succ, i64_w, i32_w]
                                              rfl
                                            refine pure_ (i := 6) (N := some 70) (v := ?_) (a' := ?_) #[false, true, true, true, false, true, true, false, false, false, false] rfl rfl (any_of HT_.out (by kernel_rfl)) (fun _ _ _ h => h) (Or.inl ⟨by rfl, ?_⟩) ?_ ?_
                                            rotate_left
                                            · intro w'
                                              go_simp
                                              with_reducible rfl
                                            rotate_left
                                            · simp only [Act.put, List.setIfInBounds_toArray, List.set_cons_zero, List.set_cons_succ, i64_w, i32_w]
                                              rfl
                                            refine pure_ (i := 7) (N := some 71) (v := ?_) (a' := ?_) #[false, true, true, true, false, true, true, true, false, false, false] rfl rfl (any_of HT_.out (by kernel_rfl)) (fun _ _ _ h => h) (Or.inl ⟨by rfl, ?_⟩) ?_ ?_
                                            rotate_left
                                            · intro w'
                                              go_simp
                                              with_reducible rfl
                                            rotate_left
                                            · simp only [Act.put, List.setIfInBounds_toArray, List.set_cons_zero, List.set_cons_succ, i64_w, i32_w]
                                              rfl
                                            refine pure_ (i := 8) (N := some 72) (v := ?_) (a' := ?_) #[false, true, true, true, false, true, true, true, true, false, false] rfl rfl (any_of HT_.out (by kernel_rfl)) (fun _ _ _ h => h) (Or.inl ⟨by rfl, ?_⟩) ?_ ?_
                                            rotate_left
                                            · intro w'
                                              go_simp
                                              with_reducible rfl
                                            rotate_left
                                            · simp only [Act.put, List.setIfInBounds_toArray, List.set_cons_zero, List.set_cons_succ, i64_w, i32_w]
                                              rfl
                                            refine one_ (i := 0) (N := some 64) #[true, true, true, true, false, true, true, true, true, false, false] rfl rfl (one_of HT_.out (by kernel_rfl)) (by decide) (fun K hK => ?_)
                                            refine Kd.R_lit_step (Kd.int .i64) _ 3 ?hg (N := 64) ?hd (xs := ([] : List Int)) (inner := []) (ok := fun _ => True) (okp := fun _ => True) ?hr ?hp (fun _ hk => hk) trivial (Below.refl _ _) (Nat.le_refl _) (by simp) ?_; (case hd => rfl); (case hg => rfl); (case hr => first | (go_simp; done) | (go_simp; rfl)); (case hp => exact (Reps.none _ _))
                                            intro v298 w36 ho37 hb hg_ hnew_
                                            clear hg_ hnew_
                                            (first | rw [← Ny297.out] at ho37 | (simp only [Int.reduceToNat] at ho37; rw [← Ny297.out] at ho37))
                                            have n0_ := Aside0.mk (Kd.S_elder' (by (with_reducible repeat (first | apply Kd.S_alloc | apply Kd.S_drewN | apply Kd.S_drew)); exact HO_8.out) (Kd.R_base ho37) hb)
                                            have n1_ := Aside0.mk (Kd.R_elder' (by (with_reducible repeat (first | apply Kd.R_alloc | apply Kd.R_drewN | apply Kd.R_drew)); exact HO_11.out) (Kd.R_base ho37) hb)
                                            have n2_ := Aside0.mk (Kd.R_elder' (by (with_reducible repeat (first | apply Kd.R_alloc | apply Kd.R_drewN | apply Kd.R_drew)); exact HO296.out) (Kd.R_base ho37) hb)
                                            have n3_ := Aside0.mk (Kd.R_lower (Kd.R_new' (Kd.R_new' ho37 (Kd.R_lt (by (with_reducible repeat (first | apply Kd.R_alloc | apply Kd.R_drewN | apply Kd.R_drew)); exact HO_11.out))) (Kd.R_lt (by (with_reducible repeat (first | apply Kd.R_alloc | apply Kd.R_drewN | apply Kd.R_drew)); exact HO296.out))) (below_size (by repeat (first | (with_reducible first | exact HB.out | apply below_alloc | apply pw_below_drewN | apply below_drew1) | exact HB.out))))
                                            have n4_ := Aside0.mk (Kd.C_below (by repeat (first | (with_reducible exact HR303.out) | (with_reducible refine Kd.C_alloc ?_ _) | (with_reducible refine Kd.C_drewN ?_ _) | (with_reducible refine Kd.C_drew ?_) | exact HR303.out)) hb)
                                            have n5_ := Aside0.mk (Kd.C_below (by repeat (first | (with_reducible exact HR310.out) | (with_reducible refine Kd.C_alloc ?_ _) | (with_reducible refine Kd.C_drewN ?_ _) | (with_reducible refine Kd.C_drew ?_) | exact HR310.out)) hb)
                                            have n6_ := Aside0.mk (below_step (by repeat (first | (with_reducible first | exact HB.out | apply below_alloc | apply pw_below_drewN | apply below_drew1) | exact HB.out)) hb)
                                            clear HO_8
                                            clear HO_11
                                            clear HO296
                                            clear HR303
                                            clear HR310
                                            clear HB
                                            have HO_8 := n0_
                                            have HO_11 := n1_
                                            have HO296 := n2_
                                            have HO299 := n3_
                                            have HR303 := n4_
                                            have HR310 := n5_
                                            have HB := n6_
                                            clear n0_ n1_ n2_ n3_ n4_ n5_ n6_
                                            clear hb ho37
                                            refine hK.out _ _ trivial (fun hHeld => ?_)
                                            clear hK K
                                            refine norm_ (a' := ?_) ?_ ?_
                                            rotate_left
                                            · show Act.put _ (some 64) _ = _
                                              simp only [Act.put, List.setIfInBounds_toArray, List.set_cons_zero, List.set_cons_succ, i64_w, i32_w]
                                              rfl
                                            refine one_ (i := 4) (N := some 68) #[true, true, true, true, true, true, true, true, true, false, false] rfl rfl (one_of HT_.out (by kernel_rfl)) (by decide) (fun K hK => ?_)
                                            refine Kd.R_append_rows_step (Kd.int .i64) (w0 := w) w.heap.size (by rfl) (.tmp 64) (.tmp 67) 24 3 (.int .i64 0) 8 rfl Try.underlying24 info3 rfl (by decide) (by omega) v298 y297 y300 _ _ _ (fun k_ => some k_ ≠ (.slice (some ad293) x11_3.length co31 : Value).ownBlock ∧ some k_ ≠ (v295 : Value).ownBlock) (fun _ => False) rfl rfl ?aO ?aR (fun _ _ h => h) (fun _ h => h.elim) ?aF ?aB ?aS ?aL ?_
                                            (case aR => repeat (first | exact (by repeat (first | (with_reducible exact HR303.out) | (with_reducible refine Kd.C_alloc ?_ _) | (with_reducible refine Kd.C_drewN ?_ _) | (with_reducible refine Kd.C_drew ?_) | exact HR303.out)) | (with_reducible refine Kd.C_alloc ?_ _) | (with_reducible refine Kd.C_drewN ?_ _) | (with_reducible refine Kd.C_drew ?_)))
                                            (case aB => exact (by repeat (first | (with_reducible first | exact HB.out | apply below_alloc | apply pw_below_drewN | apply below_drew1) | exact HB.out)))
                                            (case aF => exact (fun k_ hk => ⟨Kd.fresh' (Kd.R_lt (by (with_reducible repeat (first | apply Kd.R_alloc | apply Kd.R_drewN | apply Kd.R_drew)); exact HO_11.out)) k_ hk, Kd.fresh' (Kd.R_lt (by (with_reducible repeat (first | apply Kd.R_alloc | apply Kd.R_drewN | apply Kd.R_drew)); exact HO296.out)) k_ hk⟩))
                                            (case aO => exact (by (with_reducible repeat (first | apply Kd.R_alloc | apply Kd.R_drewN | apply Kd.R_drew)); exact Kd.R_mono HO299.out (fun _ hk => ⟨hk.1.2, hk.2⟩)))
                                            (case aS => exact (below_size (by repeat (first | (with_reducible first | exact HB.out | apply below_alloc | apply pw_below_drewN | apply below_drew1) | exact HB.out))))
                                            (case aL => have := LMc26.out; omega)
                                            intro v305 w38 ho hb hg hat
                                            rw [← Ny304.out] at ho
                                            have n0_ := Aside0.mk (Kd.S_after (ok := (fun k_ => some k_ ≠ (.slice (some ad293) x11_3.length co31 : Value).ownBlock ∧ some k_ ≠ (v295 : Value).ownBlock)) (by (with_reducible repeat (first | apply Kd.S_alloc | apply Kd.S_drewN | apply Kd.S_drew)); exact HO_8.out) hg hat)
                                            have n1_ := Aside0.mk (Kd.R_after (ok := (fun k_ => some k_ ≠ (v295 : Value).ownBlock)) (by (with_reducible repeat (first | apply Kd.R_alloc | apply Kd.R_drewN | apply Kd.R_drew)); exact Kd.R_mono HO_11.out (fun _ hk => ⟨hk.1.2, hk.2⟩)) hg hat)
                                            have n2_ := Aside0.mk (Kd.R_after (ok := (fun k_ => some k_ ≠ (.slice (some ad293) x11_3.length co31 : Value).ownBlock)) (by (with_reducible repeat (first | apply Kd.R_alloc | apply Kd.R_drewN | apply Kd.R_drew)); exact HO296.out) hg hat)
                                            have n3_ := Aside0.mk (hb)
                                            have n4_ := Aside0.mk ((show Kd.C (Kd.int .i64) w38 (some ad293) y300.length y300 from by rw [Ny300.out]; exact Kd.C_take (m := ((ji20) : Int).toNat) ((Kd.R_reads' (Kd.R_after (ok := (fun k_ => some k_ ≠ (v295 : Value).ownBlock)) (by (with_reducible repeat (first | apply Kd.R_alloc | apply Kd.R_drewN | apply Kd.R_drew)); exact Kd.R_mono HO_11.out (fun _ hk => ⟨hk.1.2, hk.2⟩)) hg hat)).2.2) KL34.out))
                                            have n5_ := Aside0.mk ((show Kd.C (Kd.int .i64) w38 A35 y307.length y307 from by rw [Ny307.out, KA35.out]; exact Kd.C_drop (m := ((ji27) : Int).toNat) (c := co31) ((Kd.R_reads' (Kd.R_after (ok := (fun k_ => some k_ ≠ (v295 : Value).ownBlock)) (by (with_reducible repeat (first | apply Kd.R_alloc | apply Kd.R_drewN | apply Kd.R_drew)); exact Kd.R_mono HO_11.out (fun _ hk => ⟨hk.1.2, hk.2⟩)) hg hat)).2.2) KL35.out ((Kd.R_reads' (Kd.R_after (ok := (fun k_ => some k_ ≠ (v295 : Value).ownBlock)) (by (with_reducible repeat (first | apply Kd.R_alloc | apply Kd.R_drewN | apply Kd.R_drew)); exact Kd.R_mono HO_11.out (fun _ hk => ⟨hk.1.2, hk.2⟩)) hg hat)).2.1)))
                                            have n6_ := Aside0.mk (ho)
                                            clear HO_8
                                            clear HO_11
                                            clear HO296
                                            clear HB
                                            clear HR303
                                            clear HR310
                                            clear HO299
                                            have HO_8 := n0_
                                            have HO_11 := n1_
                                            have HO296 := n2_
                                            have HB := n3_
                                            have HR303 := n4_
                                            have HR310 := n5_
                                            have HO306 := n6_
                                            clear n0_ n1_ n2_ n3_ n4_ n5_ n6_
                                            clear ho hb hg hat
                                            refine hK.out _ _ trivial (fun hHeld => ?_)
                                            clear hK K
                                            refine norm_ (a' := ?_) ?_ ?_
                                            rotate_left
                                            · show Act.put _ (some 68) _ = _
                                              simp only [Act.put, List.setIfInBounds_toArray, List.set_cons_zero, List.set_cons_succ, i64_w, i32_w]
                                              rfl
                                            refine one_ (i := 9) (N := some 73) #[true, true, true, true, true, true, true, true, true, true, false] rfl rfl (one_of HT_.out (by kernel_rfl)) (by decide) (fun K hK => ?_)
                                            refine Kd.R_append_rows_step (Kd.int .i64) (w0 := w) w.heap.size (by rfl) (.tmp 68) (.tmp 72) 24 3 (.int .i64 0) 8 rfl Try.underlying24 info3 rfl (by decide) (by omega) v305 y304 y307 _ _ _ (fun k_ => some k_ ≠ (.slice (some ad293) x11_3.length co31 : Value).ownBlock ∧ some k_ ≠ (v295 : Value).ownBlock) (fun _ => False) rfl rfl ?aO ?aR (fun _ _ h => h) (fun _ h => h.elim) ?aF ?aB ?aS ?aL ?_
                                            (case aR => repeat (first | exact (by repeat (first | (with_reducible exact HR310.out) | (with_reducible refine Kd.C_alloc ?_ _) | (with_reducible refine Kd.C_drewN ?_ _) | (with_reducible refine Kd.C_drew ?_) | exact HR310.out)) | (with_reducible refine Kd.C_alloc ?_ _) | (with_reducible refine Kd.C_drewN ?_ _) | (with_reducible refine Kd.C_drew ?_)))
                                            (case aB => exact (by repeat (first | (with_reducible first | exact HB.out | apply below_alloc | apply pw_below_drewN | apply below_drew1) | exact HB.out)))
                                            (case aF => exact (fun k_ hk => ⟨Kd.fresh' (Kd.R_lt (by (with_reducible repeat (first | apply Kd.R_alloc | apply Kd.R_drewN | apply Kd.R_drew)); exact HO_11.out)) k_ hk, Kd.fresh' (Kd.R_lt (by (with_reducible repeat (first | apply Kd.R_alloc | apply Kd.R_drewN | apply Kd.R_drew)); exact HO296.out)) k_ hk⟩))
                                            (case aO => exact (by (with_reducible repeat (first | apply Kd.R_alloc | apply Kd.R_drewN | apply Kd.R_drew)); exact HO306.out))
                                            (case aS => exact (below_size (by repeat (first | (with_reducible first | exact HB.out | apply below_alloc | apply pw_below_drewN | apply below_drew1) | exact HB.out))))
                                            (case aL => have := LMc30.out; omega)
                                            intro v312 w39 ho hb hg hat
                                            rw [← Ny311.out] at ho
                                            have n0_ := Aside0.mk (Kd.S_after (ok := (fun k_ => some k_ ≠ (.slice (some ad293) x11_3.length co31 : Value).ownBlock ∧ some k_ ≠ (v295 : Value).ownBlock)) (by (with_reducible repeat (first | apply Kd.S_alloc | apply Kd.S_drewN | apply Kd.S_drew)); exact HO_8.out) hg hat)
                                            have n1_ := Aside0.mk (Kd.R_after (ok := (fun k_ => some k_ ≠ (v295 : Value).ownBlock)) (by (with_reducible repeat (first | apply Kd.R_alloc | apply Kd.R_drewN | apply Kd.R_drew)); exact HO_11.out) hg hat)
                                            have n2_ := Aside0.mk (Kd.R_after (ok := (fun k_ => some k_ ≠ (.slice (some ad293) x11_3.length co31 : Value).ownBlock)) (by (with_reducible repeat (first | apply Kd.R_alloc | apply Kd.R_drewN | apply Kd.R_drew)); exact HO296.out) hg hat)
                                            have n3_ := Aside0.mk (hb)
                                            have n4_ := Aside0.mk ((show Kd.C (Kd.int .i64) w39 (some ad293) y300.length y300 from by rw [Ny300.out]; exact Kd.C_take (m := ((ji20) : Int).toNat) ((Kd.R_reads' (Kd.R_after (ok := (fun k_ => some k_ ≠ (v295 : Value).ownBlock)) (by (with_reducible repeat (first | apply Kd.R_alloc | apply Kd.R_drewN | apply Kd.R_drew)); exact HO_11.out) hg hat)).2.2) KL34.out))
                                            have n5_ := Aside0.mk ((show Kd.C (Kd.int .i64) w39 A35 y307.length y307 from by rw [Ny307.out, KA35.out]; exact Kd.C_drop (m := ((ji27) : Int).toNat) (c := co31) ((Kd.R_reads' (Kd.R_after (ok := (fun k_ => some k_ ≠ (v295 : Value).ownBlock)) (by (with_reducible repeat (first | apply Kd.R_alloc | apply Kd.R_drewN | apply Kd.R_drew)); exact HO_11.out) hg hat)).2.2) KL35.out ((Kd.R_reads' (Kd.R_after (ok := (fun k_ => some k_ ≠ (v295 : Value).ownBlock)) (by (with_reducible repeat (first | apply Kd.R_alloc | apply Kd.R_drewN | apply Kd.R_drew)); exact HO_11.out) hg hat)).2.1)))
                                            have n6_ := Aside0.mk (ho)
                                            clear HO_8
                                            clear HO_11
                                            clear HO296
                                            clear HB
                                            clear HR303
                                            clear HR310
                                            clear HO306
                                            have HO_8 := n0_
                                            have HO_11 := n1_
                                            have HO296 := n2_
                                            have HB := n3_
                                            have HR303 := n4_
                                            have HR310 := n5_
                                            have HO313 := n6_
                                            clear n0_ n1_ n2_ n3_ n4_ n5_ n6_
                                            clear ho hb hg hat
                                            refine hK.out _ _ trivial (fun hHeld => ?_)
                                            clear hK K
                                            refine norm_ (a' := ?_) ?_ ?_
                                            rotate_left
                                            · show Act.put _ (some 73) _ = _
                                              simp only [Act.put, List.setIfInBounds_toArray, List.set_cons_zero, List.set_cons_succ, i64_w, i32_w]
                                              rfl
                                            refine pure_ (i := 10) (N := some 11) (v := ?_) (a' := ?_) #[true, true, true, true, true, true, true, true, true, true, true] rfl rfl (any_of HT_.out (by kernel_rfl)) (fun _ _ _ h => h) (Or.inl ⟨by rfl, ?_⟩) ?_ ?_
                                            rotate_left
                                            · intro w'
                                              go_simp
                                              with_reducible rfl
                                            rotate_left
                                            · simp only [Act.put, List.setIfInBounds_toArray, List.set_cons_zero, List.set_cons_succ, i64_w, i32_w]
                                              rfl
                                            refine done_ (done_of HT_.out (by kernel_rfl)) ?_
                                            try go_wp2
                                            go_roundg k3
                                            case measure => have := HK1.out; have := HK2.out; have := HK3.out; omega
                                            case rel => exact ⟨(wrap64 (x9_3 + 1)), (y311), (y294), (by first | rfl | (simp; done) | (simp [*]; done)), H', ⟨by have := HK1.out; have := HK2.out; have := HK3.out; omega⟩, ⟨by (with_reducible repeat (first | apply Kd.S_alloc | apply Kd.S_drewN | apply Kd.S_drew)); exact Kd.S_mono HO_8.out (fun _ hk => ⟨hk.2, hk.1.2⟩)⟩, ⟨by (with_reducible repeat (first | apply Kd.R_alloc | apply Kd.R_drewN | apply Kd.R_drew)); exact Kd.R_mono HO313.out (fun _ hk => hk.2)⟩, ⟨by (with_reducible repeat (first | apply Kd.R_alloc | apply Kd.R_drewN | apply Kd.R_drew)); exact Kd.R_mono HO296.out (fun _ hk => hk.2)⟩, ⟨by repeat (first | (with_reducible first | exact HB.out | apply below_alloc | apply pw_below_drewN | apply below_drew1) | exact HB.out)⟩⟩
                                          · rw [if_neg c30] at H
                                            exact absurd H (by simp)
                                        · rw [if_neg c29] at H
                                          exact absurd H (by simp)
                                      · rw [if_neg c28] at H
                                        exact absurd H (by simp)
                                    · rw [if_neg c26] at H
                                      exact absurd H (by simp)
                                  · rw [if_neg c25] at H
                                    exact absurd H (by simp)
                                · rw [if_neg c23] at H
                                  exact absurd H (by simp)
                              · rw [if_neg c22] at H
                                exact absurd H (by simp)
                            · rw [if_neg c21] at H
                              exact absurd H (by simp)
                        · rw [if_neg c18] at H
                          exact absurd H (by simp)
                      · rw [if_neg c17] at H
                        have c17b0 : decide (x9_3 < (l1.length : Int)) = false := decide_eq_false c17
                        clear c17
                        by_cases c40 : 0 < (x11_3.length : Int)
                        · rw [if_pos c40] at H
                          have c40b0 : decide (0 < (x11_3.length : Int)) = true := decide_eq_true c40
                          have c40b1 : decide (0 < x11_3.length) = true := decide_eq_true (by omega)
                          clear c40
                          by_cases c41 : x12_3.length < 17592186044416
                          · rw [if_pos c41] at H
                            have LMc41 := Aside0.mk c41
                            clear c41
                            obtain ⟨y315, hy315⟩ : ∃ y_ : List Int, y_ = (x12_3 ++ [rd x11_3 0]) := ⟨_, rfl⟩
                            replace H : ((some (([] : List Int) : List Int)).bind fun y318 => (if 0 ≤ (x11_3.length : Int) then ((some (x11_3.take 0 : List Int)).bind fun y321 => (if y318.length + y321.length < 17592186044416 then ((some (y318 ++ y321 : List Int)).bind fun y325 => (if 0 ≤ ((0 : Int) + 1) then (if (0 + 1) ≤ (x11_3.length : Int) then ((some (x11_3.drop ((0 + 1) : Int).toNat : List Int)).bind fun y328 => (if y325.length + y328.length < 17592186044416 then (gamplaw07_made.l2 k3 l1 (wrap64 ((Int.tmod (wrap64 (a0)) a2) + 1)) x8_1 (wrap64 (x9_3 + 1)) x10_1 (y325 ++ y328) y315) else (none))) else (none)) else (none))) else (none))) else (none))) = some r := by first | (rw [hy315]; with_reducible exact H) | (have H2_ := (Option.bind_some _ _).symm.trans H; rw [hy315]; with_reducible exact H2_) | (have H2_ := (Option.bind_some _ _).symm.trans H; with_reducible exact H2_) | with_reducible exact H | (rw [hy315]; exact H) | exact H
                            have Ny315 := Aside0.mk hy315
                            clear hy315
                            obtain ⟨y318, hy318⟩ : ∃ y_ : List Int, y_ = (([] : List Int)) := ⟨_, rfl⟩
                            replace H : (if 0 ≤ (x11_3.length : Int) then ((some (x11_3.take 0 : List Int)).bind fun y321 => (if y318.length + y321.length < 17592186044416 then ((some (y318 ++ y321 : List Int)).bind fun y325 => (if 0 ≤ ((0 : Int) + 1) then (if (0 + 1) ≤ (x11_3.length : Int) then ((some (x11_3.drop ((0 + 1) : Int).toNat : List Int)).bind fun y328 => (if y325.length + y328.length < 17592186044416 then (gamplaw07_made.l2 k3 l1 (wrap64 ((Int.tmod (wrap64 (a0)) a2) + 1)) x8_1 (wrap64 (x9_3 + 1)) x10_1 (y325 ++ y328) y315) else (none))) else (none)) else (none))) else (none))) else (none)) = some r := by first | (rw [hy318]; with_reducible exact H) | (have H2_ := (Option.bind_some _ _).symm.trans H; rw [hy318]; with_reducible exact H2_) | (have H2_ := (Option.bind_some _ _).symm.trans H; with_reducible exact H2_) | with_reducible exact H | (rw [hy318]; exact H) | exact H
                            have Ny318 := Aside0.mk hy318
                            clear hy318
                            by_cases c42 : 0 ≤ (x11_3.length : Int)
                            · rw [if_pos c42] at H
                              have c42b0 := eq_true c42
                              have c42b1 : decide (0 ≤ (x11_3.length : Int)) = true := decide_eq_true c42
                              clear c42
                              obtain ⟨y321, hy321⟩ : ∃ y_ : List Int, y_ = (x11_3.take 0) := ⟨_, rfl⟩
                              replace H : (if y318.length + y321.length < 17592186044416 then ((some (y318 ++ y321 : List Int)).bind fun y325 => (if 0 ≤ ((0 : Int) + 1) then (if (0 + 1) ≤ (x11_3.length : Int) then ((some (x11_3.drop ((0 + 1) : Int).toNat : List Int)).bind fun y328 => (if y325.length + y328.length < 17592186044416 then (gamplaw07_made.l2 k3 l1 (wrap64 ((Int.tmod (wrap64 (a0)) a2) + 1)) x8_1 (wrap64 (x9_3 + 1)) x10_1 (y325 ++ y328) y315) else (none))) else (none)) else (none))) else (none)) = some r := by first | (rw [hy321]; with_reducible exact H) | (have H2_ := (Option.bind_some _ _).symm.trans H; rw [hy321]; with_reducible exact H2_) | (have H2_ := (Option.bind_some _ _).symm.trans H; with_reducible exact H2_) | with_reducible exact H | (rw [hy321]; exact H) | exact H
                              have Ny321 := Aside0.mk hy321
                              clear hy321
                              by_cases c43 : y318.length + y321.length < 17592186044416
                              · rw [if_pos c43] at H
                                have LMc43 := Aside0.mk c43
                                clear c43
                                obtain ⟨y325, hy325⟩ : ∃ y_ : List Int, y_ = (y318 ++ y321) := ⟨_, rfl⟩
                                replace H : (if 0 ≤ ((0 : Int) + 1) then (if (0 + 1) ≤ (x11_3.length : Int) then ((some (x11_3.drop ((0 + 1) : Int).toNat : List Int)).bind fun y328 => (if y325.length + y328.length < 17592186044416 then (gamplaw07_made.l2 k3 l1 (wrap64 ((Int.tmod (wrap64 (a0)) a2) + 1)) x8_1 (wrap64 (x9_3 + 1)) x10_1 (y325 ++ y328) y315) else (none))) else (none)) else (none)) = some r := by first | (rw [hy325]; with_reducible exact H) | (have H2_ := (Option.bind_some _ _).symm.trans H; rw [hy325]; with_reducible exact H2_) | (have H2_ := (Option.bind_some _ _).symm.trans H; with_reducible exact H2_) | with_reducible exact H | (rw [hy325]; exact H) | exact H
                                have Ny325 := Aside0.mk hy325
                                clear hy325
                                obtain ⟨ji44, hji44⟩ : ∃ j_ : Int, (0 + 1) = j_ := ⟨_, rfl⟩
                                replace H : (if 0 ≤ (ji44) then (if (ji44) ≤ (x11_3.length : Int) then ((some (x11_3.drop ((ji44) : Int).toNat : List Int)).bind fun y328 => (if y325.length + y328.length < 17592186044416 then (gamplaw07_made.l2 k3 l1 (wrap64 ((Int.tmod (wrap64 (a0)) a2) + 1)) x8_1 (wrap64 (x9_3 + 1)) x10_1 (y325 ++ y328) y315) else (none))) else (none)) else (none)) = some r := by first | (rw [hji44] at H; exact H) | (simp only [hji44] at H ⊢; exact H)
                                have hw_ji44 : wrap64 ji44 = ji44 := by subst hji44; unfold wrap64; omega
                                by_cases c45 : 0 ≤ (ji44)
                                · rw [if_pos c45] at H
                                  have c45b0 := eq_true c45
                                  have c45b1 : decide (0 ≤ (ji44)) = true := decide_eq_true c45
                                  clear c45
                                  by_cases c46 : (ji44) ≤ (x11_3.length : Int)
                                  · rw [if_pos c46] at H
                                    have c46b0 := eq_true c46
                                    have c46b1 : decide ((ji44) ≤ (x11_3.length : Int)) = true := decide_eq_true c46
                                    clear c46
                                    obtain ⟨y328, hy328⟩ : ∃ y_ : List Int, y_ = (x11_3.drop ((ji44) : Int).toNat) := ⟨_, rfl⟩
                                    replace H : (if y325.length + y328.length < 17592186044416 then (gamplaw07_made.l2 k3 l1 (wrap64 ((Int.tmod (wrap64 (a0)) a2) + 1)) x8_1 (wrap64 (x9_3 + 1)) x10_1 (y325 ++ y328) y315) else (none)) = some r := by first | (rw [hy328]; with_reducible exact H) | (have H2_ := (Option.bind_some _ _).symm.trans H; rw [hy328]; with_reducible exact H2_) | (have H2_ := (Option.bind_some _ _).symm.trans H; with_reducible exact H2_) | with_reducible exact H | (rw [hy328]; exact H) | exact H
                                    have Ny328 := Aside0.mk hy328
                                    clear hy328
                                    by_cases c47 : y325.length + y328.length < 17592186044416
                                    · rw [if_pos c47] at H
                                      have LMc47 := Aside0.mk c47
                                      clear c47
                                      obtain ⟨y332, hy332⟩ : ∃ y_ : List Int, y_ = (y325 ++ y328) := ⟨_, rfl⟩
                                      replace H : (gamplaw07_made.l2 k3 l1 (wrap64 ((Int.tmod (wrap64 (a0)) a2) + 1)) x8_1 (wrap64 (x9_3 + 1)) x10_1 y332 y315) = some r := by first | (rw [hy332]; with_reducible exact H) | (have H2_ := (Option.bind_some _ _).symm.trans H; rw [hy332]; with_reducible exact H2_) | (have H2_ := (Option.bind_some _ _).symm.trans H; with_reducible exact H2_) | with_reducible exact H | (rw [hy332]; exact H) | exact H
                                      have Ny332 := Aside0.mk hy332
                                      clear hy332
                                      have H' := Aside0.mk H
                                      clear H
                                      obtain ⟨Ao48, co48, eo48⟩ := Kd.R_slice HO_11.out
                                      subst eo48
                                      have p314 : 0 ≤ (0 : Int) := (by omega)
                                      have q314 : 0 < (x11_3.length : Int) := of_decide_eq_true (by first | (with_reducible assumption) | assumption)
                                      obtain ⟨ad314, e314, hx314_0⟩ := Kd.at_int (Kd.R_reads' HO_11.out).2.2 0 p314 q314
                                      cases e314
                                      have qi314 : (0 < x11_3.length) = True := eq_true (by omega)
                                      (try rw [show ((0 : Int)).toNat = 0 from rfl] at hx314_0)
                                      (try rw [Addr.add_zero'] at hx314_0)
                                      replace p314 := eq_true p314
                                      replace q314 := eq_true q314
                                      try go_wp2_with (first | ((with_reducible refine gate_builtin (b := .append) (xs := #[.tmp 57, .tmp 62]) rfl ?_); at_builtin; refine Kd.R_append (Kd.int .i64) (w0 := w) w.heap.size rfl (.tmp 57) (.tmp 62) 24 3 (.int .i64 0) 8 rfl Try.underlying24 info3 rfl (by decide) (by omega) u12 x12_3 (rd x11_3 0) [.int .i64 (rd x11_3 0)] (fun k_ => some k_ ≠ (.slice (some ad314) x11_3.length co48 : Value).ownBlock) (fun _ => False) rfl rfl ?aP (fun _ hk => hk.elim) ?aF ?aO ?aB ?aS ?aL ?_; (case aP => exact rfl); (case aB => exact (by repeat (first | (with_reducible first | exact HB.out | apply below_alloc | apply pw_below_drewN | apply below_drew1) | exact HB.out))); (case aF => exact (fun k_ hk => Kd.fresh' (Kd.R_lt (by (with_reducible repeat (first | apply Kd.R_alloc | apply Kd.R_drewN | apply Kd.R_drew)); exact HO_11.out)) k_ hk)); (case aO => exact (by (with_reducible repeat (first | apply Kd.R_alloc | apply Kd.R_drewN | apply Kd.R_drew)); exact HO_12.out)); (case aS => exact (below_size (by repeat (first | (with_reducible first | exact HB.out | apply below_alloc | apply pw_below_drewN | apply below_drew1) | exact HB.out)))); (case aL => have := LMc41.out; omega); intro v316 w49 ho hb hg hat; rw [← Ny315.out] at ho; have n0_ := Aside0.mk (Kd.S_after (ok := (fun k_ => some k_ ≠ (.slice (some ad314) x11_3.length co48 : Value).ownBlock)) (by (with_reducible repeat (first | apply Kd.S_alloc | apply Kd.S_drewN | apply Kd.S_drew)); exact HO_8.out) hg hat); have n1_ := Aside0.mk (Kd.R_after (ok := (fun _ => True)) (by (with_reducible repeat (first | apply Kd.R_alloc | apply Kd.R_drewN | apply Kd.R_drew)); exact Kd.R_mono HO_11.out (fun _ hk => ⟨trivial, hk⟩)) hg hat); have n2_ := Aside0.mk (hb); have n3_ := Aside0.mk (ho); clear HO_8; clear HO_11; clear HB; clear HO_12; have HO_8 := n0_; have HO_11 := n1_; have HB := n2_; have HO317 := n3_; clear n0_ n1_ n2_ n3_; clear ho hb hg hat))
                                      have n0_ := Aside0.mk (Kd.S_drew HO_8.out)
                                      have n1_ := Aside0.mk (Kd.R_drew HO_11.out)
                                      have n2_ := Aside0.mk (Kd.R_drew HO317.out)
                                      have n3_ := Aside0.mk (below_drew1 HB.out)
                                      clear HO_8
                                      clear HO_11
                                      clear HO317
                                      clear HB
                                      have HO_8 := n0_
                                      have HO_11 := n1_
                                      have HO317 := n2_
                                      have HB := n3_
                                      clear n0_ n1_ n2_ n3_
                                      have q51 : (0 : Int) ≤ ((x11_3.length : Int) : Int) := of_decide_eq_true (by first | (with_reducible assumption) | assumption)
                                      obtain ⟨i051, hi051, _, hsz51, _⟩ := info_parts info3
                                      have hroom51 : x11_3.length ≤ co48 := (Kd.R_reads' HO_11.out).2.1
                                      have hC51 : Kd.C (Kd.int .i64) _ (some ad314) x11_3.length x11_3 := (Kd.R_reads' HO_11.out).2.2
                                      have hcut51 := cut_to (P := Try.prog) 24 3 .i64 Try.underlying24 hi051 (some ad314) x11_3.length co48 0 (by omega) q51 hroom51
                                      have hr51 := Kd.C_take (m := 0) hC51 (by omega)
                                      have hy51 : y321.length = (0 : Int).toNat := (by rw [Ny321.out, List.length_take]; omega)
                                      rw [← Ny321.out] at hr51
                                      rw [← hy51] at hcut51
                                      have HR324 := Aside0.mk hr51
                                      have HC324 := Aside0.mk (show y321.length ≤ co48 from by omega)
                                      clear hr51 hC51 hroom51 hi051 hsz51
                                      have KY51 := Aside0.mk hy51
                                      clear hy51
                                      have KL51 := Aside0.mk (show 0 ≤ x11_3.length from by omega)
                                      replace q51 := eq_true q51
                                      have q52 : ((ji44) : Int) ≤ ((x11_3.length : Int) : Int) := of_decide_eq_true (by first | (with_reducible assumption) | assumption)
                                      obtain ⟨i052, hi052, _, hsz52, _⟩ := info_parts info3
                                      have hroom52 : x11_3.length ≤ co48 := (Kd.R_reads' HO_11.out).2.1
                                      have hC52 : Kd.C (Kd.int .i64) _ (some ad314) x11_3.length x11_3 := (Kd.R_reads' HO_11.out).2.2
                                      have q052 : (0 : Int) ≤ ((ji44) : Int) := of_decide_eq_true (by first | (with_reducible assumption) | assumption)
                                      have hcut52 := cut_from (P := Try.prog) 24 3 .i64 Try.underlying24 hi052 1 hsz52 (some ad314) x11_3.length co48 (ji44) q052 q52
                                      have hr52 := Kd.C_drop (m := ((ji44) : Int).toNat) (c := co48) hC52 (by omega) hroom52
                                      obtain ⟨A52, hA52⟩ : ∃ A1, A1 = (if co48 = ((ji44) : Int).toNat then (some ad314) else ((some ad314) : Option Addr).map (·.add (((ji44) : Int).toNat * 1))) := ⟨_, rfl⟩
                                      obtain ⟨c52, hc52⟩ : ∃ c1, c1 = co48 - ((ji44) : Int).toNat := ⟨_, rfl⟩
                                      have hy52 : y328.length = x11_3.length - ((ji44) : Int).toNat := (by rw [Ny328.out, List.length_drop] <;> omega)
                                      rw [show (x11_3).drop ((ji44) : Int).toNat = y328 from Ny328.out.symm] at hr52
                                      replace hr52 : Kd.C (Kd.int .i64) _ A52 y328.length y328 := (by rw [hA52]; exact hr52)
                                      rw [← hy52, ← hA52, ← hc52] at hcut52
                                      have HR331 := Aside0.mk hr52
                                      have HC331 := Aside0.mk (show y328.length ≤ c52 from by rw [hy52, hc52]; exact Nat.sub_le_sub_right hroom52 _)
                                      clear hr52 hC52 hroom52 hi052 hsz52 hc52
                                      have KY52 := Aside0.mk hy52
                                      have KA52 := Aside0.mk hA52
                                      clear hy52 hA52
                                      have KL52 := Aside0.mk (show ((ji44) : Int).toNat ≤ x11_3.length from by omega)
                                      replace q52 := eq_true q52
                                      refine start_ (n := 11) (S := fun w' => True) (ds := []) #[false, false, false, false, false, false, false, false, false, false, false] (by kernel_rfl) rfl rfl trivial (fun hHeld => ?_); refine with_tabW gamplaw07_made.tab18 gamplaw07_made.bits18 (fun HT_ HW_ => ?_)
                                      generalize w49.drew = w50 at HO_8 HO_11 HO317 HB HR324 HR331 hHeld ⊢
                                      refine pure_ (i := 1) (N := some 65) (v := ?_) (a' := ?_) #[false, true, false, false, false, false, false, false, false, false, false] rfl rfl (any_of HT_.out (by kernel_rfl)) (fun _ _ _ h => h) (Or.inl ⟨by rfl, ?_⟩) ?_ ?_
                                      rotate_left
                                      · intro w'
                                        go_simp
                                        with_reducible rfl
                                      rotate_left
                                      · simp only [Act.put, List.setIfInBounds_toArray, List.set_cons_zero, List.set_cons_succ, i64_w, i32_w]
                                        rfl
                                      refine pure_ (i := 2) (N := some 66) (v := ?_) (a' := ?_) #[false, true, true, false, false, false, false, false, false, false, false] rfl rfl (any_of HT_.out (by kernel_rfl)) (fun _ _ _ h => h) (Or.inl ⟨by rfl, ?_⟩) ?_ ?_
                                      rotate_left
                                      · intro w'
                                        go_simp
                                        with_reducible rfl
                                      rotate_left
                                      · simp only [Act.put, List.setIfInBounds_toArray, List.set_cons_zero, List.set_cons_succ, i64_w, i32_w]
                                        rfl
                                      refine pure_ (i := 3) (N := some 67) (v := ?_) (a' := ?_) #[false, true, true, true, false, false, false, false, false, false, false] rfl rfl (any_of HT_.out (by kernel_rfl)) (fun _ _ _ h => h) (Or.inl ⟨by rfl, ?_⟩) ?_ ?_
                                      rotate_left
                                      · intro w'
                                        go_simp
                                        with_reducible rfl
                                      rotate_left
                                      · simp only [Act.put, List.setIfInBounds_toArray, List.set_cons_zero, List.set_cons_succ, i64_w, i32_w]
                                        rfl
                                      refine pure_ (i := 5) (N := some 69) (v := ?_) (a' := ?_) #[false, true, true, true, false, true, false, false, false, false, false] rfl rfl (any_of HT_.out (by kernel_rfl)) (fun _ _ _ h => h) (Or.inl ⟨by rfl, ?_⟩) ?_ ?_
                                      rotate_left
                                      · intro w'
                                        go_simp
                                        with_reducible rfl
                                      rotate_left
                                      · simp only [Act.put, List.setIfInBounds_toArray, List.set_cons_zero, List.set_cons_succ, i64_w, i32_w]
                                        rfl
                                      refine pure_ (i := 6) (N := some 70) (v := ?_) (a' := ?_) #[false, true, true, true, false, true, true, false, false, false, false] rfl rfl (any_of HT_.out (by kernel_rfl)) (fun _ _ _ h => h) (Or.inl ⟨by rfl, ?_⟩) ?_ ?_
                                      rotate_left
                                      · intro w'
                                        go_simp
                                        with_reducible rfl
                                      rotate_left
                                      · simp only [Act.put, List.setIfInBounds_toArray, List.set_cons_zero, List.set_cons_succ, i64_w, i32_w]
                                        rfl
                                      refine pure_ (i := 7) (N := some 71) (v := ?_) (a' := ?_) #[false, true, true, true, false, true, true, true, false, false, false] rfl rfl (any_of HT_.out (by kernel_rfl)) (fun _ _ _ h => h) (Or.inl ⟨by rfl, ?_⟩) ?_ ?_
                                      rotate_left
                                      · intro w'
                                        go_simp
                                        with_reducible rfl
                                      rotate_left
                                      · simp only [Act.put, List.setIfInBounds_toArray, List.set_cons_zero, List.set_cons_succ, i64_w, i32_w]
                                        rfl
                                      refine pure_ (i := 8) (N := some 72) (v := ?_) (a' := ?_) #[false, true, true, true, false, true, true, true, true, false, false] rfl rfl (any_of HT_.out (by kernel_rfl)) (fun _ _ _ h => h) (Or.inl ⟨by rfl, ?_⟩) ?_ ?_
                                      rotate_left
                                      · intro w'
                                        go_simp
                                        with_reducible rfl
                                      rotate_left
                                      · simp only [Act.put, List.setIfInBounds_toArray, List.set_cons_zero, List.set_cons_succ, i64_w, i32_w]
                                        rfl
                                      refine one_ (i := 0) (N := some 64) #[true, true, true, true, false, true, true, true, true, false, false] rfl rfl (one_of HT_.out (by kernel_rfl)) (by decide) (fun K hK => ?_)
                                      refine Kd.R_lit_step (Kd.int .i64) _ 3 ?hg (N := 64) ?hd (xs := ([] : List Int)) (inner := []) (ok := fun _ => True) (okp := fun _ => True) ?hr ?hp (fun _ hk => hk) trivial (Below.refl _ _) (Nat.le_refl _) (by simp) ?_; (case hd => rfl); (case hg => rfl); (case hr => first | (go_simp; done) | (go_simp; rfl)); (case hp => exact (Reps.none _ _))
                                      intro v319 w53 ho54 hb hg_ hnew_
                                      clear hg_ hnew_
                                      (first | rw [← Ny318.out] at ho54 | (simp only [Int.reduceToNat] at ho54; rw [← Ny318.out] at ho54))
                                      have n0_ := Aside0.mk (Kd.S_elder' (by (with_reducible repeat (first | apply Kd.S_alloc | apply Kd.S_drewN | apply Kd.S_drew)); exact HO_8.out) (Kd.R_base ho54) hb)
                                      have n1_ := Aside0.mk (Kd.R_elder' (by (with_reducible repeat (first | apply Kd.R_alloc | apply Kd.R_drewN | apply Kd.R_drew)); exact HO_11.out) (Kd.R_base ho54) hb)
                                      have n2_ := Aside0.mk (Kd.R_elder' (by (with_reducible repeat (first | apply Kd.R_alloc | apply Kd.R_drewN | apply Kd.R_drew)); exact HO317.out) (Kd.R_base ho54) hb)
                                      have n3_ := Aside0.mk (Kd.R_lower (Kd.R_new' (Kd.R_new' ho54 (Kd.R_lt (by (with_reducible repeat (first | apply Kd.R_alloc | apply Kd.R_drewN | apply Kd.R_drew)); exact HO_11.out))) (Kd.R_lt (by (with_reducible repeat (first | apply Kd.R_alloc | apply Kd.R_drewN | apply Kd.R_drew)); exact HO317.out))) (below_size (by repeat (first | (with_reducible first | exact HB.out | apply below_alloc | apply pw_below_drewN | apply below_drew1) | exact HB.out))))
                                      have n4_ := Aside0.mk (Kd.C_below (by repeat (first | (with_reducible exact HR324.out) | (with_reducible refine Kd.C_alloc ?_ _) | (with_reducible refine Kd.C_drewN ?_ _) | (with_reducible refine Kd.C_drew ?_) | exact HR324.out)) hb)
                                      have n5_ := Aside0.mk (Kd.C_below (by repeat (first | (with_reducible exact HR331.out) | (with_reducible refine Kd.C_alloc ?_ _) | (with_reducible refine Kd.C_drewN ?_ _) | (with_reducible refine Kd.C_drew ?_) | exact HR331.out)) hb)
                                      have n6_ := Aside0.mk (below_step (by repeat (first | (with_reducible first | exact HB.out | apply below_alloc | apply pw_below_drewN | apply below_drew1) | exact HB.out)) hb)
                                      clear HO_8
                                      clear HO_11
                                      clear HO317
                                      clear HR324
                                      clear HR331
                                      clear HB
                                      have HO_8 := n0_
                                      have HO_11 := n1_
                                      have HO317 := n2_
                                      have HO320 := n3_
                                      have HR324 := n4_
                                      have HR331 := n5_
                                      have HB := n6_
                                      clear n0_ n1_ n2_ n3_ n4_ n5_ n6_
                                      clear hb ho54
                                      refine hK.out _ _ trivial (fun hHeld => ?_)
                                      clear hK K
                                      refine norm_ (a' := ?_) ?_ ?_
                                      rotate_left
                                      · show Act.put _ (some 64) _ = _
                                        simp only [Act.put, List.setIfInBounds_toArray, List.set_cons_zero, List.set_cons_succ, i64_w, i32_w]
                                        rfl
                                      refine one_ (i := 4) (N := some 68) #[true, true, true, true, true, true, true, true, true, false, false] rfl rfl (one_of HT_.out (by kernel_rfl)) (by decide) (fun K hK => ?_)
                                      refine Kd.R_append_rows_step (Kd.int .i64) (w0 := w) w.heap.size (by rfl) (.tmp 64) (.tmp 67) 24 3 (.int .i64 0) 8 rfl Try.underlying24 info3 rfl (by decide) (by omega) v319 y318 y321 _ _ _ (fun k_ => some k_ ≠ (.slice (some ad314) x11_3.length co48 : Value).ownBlock ∧ some k_ ≠ (v316 : Value).ownBlock) (fun _ => False) rfl rfl ?aO ?aR (fun _ _ h => h) (fun _ h => h.elim) ?aF ?aB ?aS ?aL ?_
                                      (case aR => repeat (first | exact (by repeat (first | (with_reducible exact HR324.out) | (with_reducible refine Kd.C_alloc ?_ _) | (with_reducible refine Kd.C_drewN ?_ _) | (with_reducible refine Kd.C_drew ?_) | exact HR324.out)) | (with_reducible refine Kd.C_alloc ?_ _) | (with_reducible refine Kd.C_drewN ?_ _) | (with_reducible refine Kd.C_drew ?_)))
                                      (case aB => exact (by repeat (first | (with_reducible first | exact HB.out | apply below_alloc | apply pw_below_drewN | apply below_drew1) | exact HB.out)))
                                      (case aF => exact (fun k_ hk => ⟨Kd.fresh' (Kd.R_lt (by (with_reducible repeat (first | apply Kd.R_alloc | apply Kd.R_drewN | apply Kd.R_drew)); exact HO_11.out)) k_ hk, Kd.fresh' (Kd.R_lt (by (with_reducible repeat (first | apply Kd.R_alloc | apply Kd.R_drewN | apply Kd.R_drew)); exact HO317.out)) k_ hk⟩))
                                      (case aO => exact (by (with_reducible repeat (first | apply Kd.R_alloc | apply Kd.R_drewN | apply Kd.R_drew)); exact Kd.R_mono HO320.out (fun _ hk => ⟨hk.1.2, hk.2⟩)))
                                      (case aS => exact (below_size (by repeat (first | (with_reducible first | exact HB.out | apply below_alloc | apply pw_below_drewN | apply below_drew1) | exact HB.out))))
                                      (case aL => have := LMc43.out; omega)
                                      intro v326 w55 ho hb hg hat
                                      rw [← Ny325.out] at ho
                                      have n0_ := Aside0.mk (Kd.S_after (ok := (fun k_ => some k_ ≠ (.slice (some ad314) x11_3.length co48 : Value).ownBlock ∧ some k_ ≠ (v316 : Value).ownBlock)) (by (with_reducible repeat (first | apply Kd.S_alloc | apply Kd.S_drewN | apply Kd.S_drew)); exact HO_8.out) hg hat)
                                      have n1_ := Aside0.mk (Kd.R_after (ok := (fun k_ => some k_ ≠ (v316 : Value).ownBlock)) (by (with_reducible repeat (first | apply Kd.R_alloc | apply Kd.R_drewN | apply Kd.R_drew)); exact Kd.R_mono HO_11.out (fun _ hk => ⟨hk.1.2, hk.2⟩)) hg hat)
                                      have n2_ := Aside0.mk (Kd.R_after (ok := (fun k_ => some k_ ≠ (.slice (some ad314) x11_3.length co48 : Value).ownBlock)) (by (with_reducible repeat (first | apply Kd.R_alloc | apply Kd.R_drewN | apply Kd.R_drew)); exact HO317.out) hg hat)
                                      have n3_ := Aside0.mk (hb)
                                      have n4_ := Aside0.mk ((show Kd.C (Kd.int .i64) w55 (some ad314) y321.length y321 from by rw [Ny321.out]; exact Kd.C_take (m := 0) ((Kd.R_reads' (Kd.R_after (ok := (fun k_ => some k_ ≠ (v316 : Value).ownBlock)) (by (with_reducible repeat (first | apply Kd.R_alloc | apply Kd.R_drewN | apply Kd.R_drew)); exact Kd.R_mono HO_11.out (fun _ hk => ⟨hk.1.2, hk.2⟩)) hg hat)).2.2) KL51.out))
                                      have n5_ := Aside0.mk ((show Kd.C (Kd.int .i64) w55 A52 y328.length y328 from by rw [Ny328.out, KA52.out]; exact Kd.C_drop (m := ((ji44) : Int).toNat) (c := co48) ((Kd.R_reads' (Kd.R_after (ok := (fun k_ => some k_ ≠ (v316 : Value).ownBlock)) (by (with_reducible repeat (first | apply Kd.R_alloc | apply Kd.R_drewN | apply Kd.R_drew)); exact Kd.R_mono HO_11.out (fun _ hk => ⟨hk.1.2, hk.2⟩)) hg hat)).2.2) KL52.out ((Kd.R_reads' (Kd.R_after (ok := (fun k_ => some k_ ≠ (v316 : Value).ownBlock)) (by (with_reducible repeat (first | apply Kd.R_alloc | apply Kd.R_drewN | apply Kd.R_drew)); exact Kd.R_mono HO_11.out (fun _ hk => ⟨hk.1.2, hk.2⟩)) hg hat)).2.1)))
                                      have n6_ := Aside0.mk (ho)
                                      clear HO_8
                                      clear HO_11
                                      clear HO317
                                      clear HB
                                      clear HR324
                                      clear HR331
                                      clear HO320
                                      have HO_8 := n0_
                                      have HO_11 := n1_
                                      have HO317 := n2_
                                      have HB := n3_
                                      have HR324 := n4_
                                      have HR331 := n5_
                                      have HO327 := n6_
                                      clear n0_ n1_ n2_ n3_ n4_ n5_ n6_
                                      clear ho hb hg hat
                                      refine hK.out _ _ trivial (fun hHeld => ?_)
                                      clear hK K
                                      refine norm_ (a' := ?_) ?_ ?_
                                      rotate_left
                                      · show Act.put _ (some 68) _ = _
                                        simp only [Act.put, List.setIfInBounds_toArray, List.set_cons_zero, List.set_cons_succ, i64_w, i32_w]
                                        rfl
                                      refine one_ (i := 9) (N := some 73) #[true, true, true, true, true, true, true, true, true, true, false] rfl rfl (one_of HT_.out (by kernel_rfl)) (by decide) (fun K hK => ?_)
                                      refine Kd.R_append_rows_step (Kd.int .i64) (w0 := w) w.heap.size (by rfl) (.tmp 68) (.tmp 72) 24 3 (.int .i64 0) 8 rfl Try.underlying24 info3 rfl (by decide) (by omega) v326 y325 y328 _ _ _ (fun k_ => some k_ ≠ (.slice (some ad314) x11_3.length co48 : Value).ownBlock ∧ some k_ ≠ (v316 : Value).ownBlock) (fun _ => False) rfl rfl ?aO ?aR (fun _ _ h => h) (fun _ h => h.elim) ?aF ?aB ?aS ?aL ?_
                                      (case aR => repeat (first | exact (by repeat (first | (with_reducible exact HR331.out) | (with_reducible refine Kd.C_alloc ?_ _) | (with_reducible refine Kd.C_drewN ?_ _) | (with_reducible refine Kd.C_drew ?_) | exact HR331.out)) | (with_reducible refine Kd.C_alloc ?_ _) | (with_reducible refine Kd.C_drewN ?_ _) | (with_reducible refine Kd.C_drew ?_)))
                                      (case aB => exact (by repeat (first | (with_reducible first | exact HB.out | apply below_alloc | apply pw_below_drewN | apply below_drew1) | exact HB.out)))
                                      (case aF => exact (fun k_ hk => ⟨Kd.fresh' (Kd.R_lt (by (with_reducible repeat (first | apply Kd.R_alloc | apply Kd.R_drewN | apply Kd.R_drew)); exact HO_11.out)) k_ hk, Kd.fresh' (Kd.R_lt (by (with_reducible repeat (first | apply Kd.R_alloc | apply Kd.R_drewN | apply Kd.R_drew)); exact HO317.out)) k_ hk⟩))
                                      (case aO => exact (by (with_reducible repeat (first | apply Kd.R_alloc | apply Kd.R_drewN | apply Kd.R_drew)); exact HO327.out))
                                      (case aS => exact (below_size (by repeat (first | (with_reducible first | exact HB.out | apply below_alloc | apply pw_below_drewN | apply below_drew1) | exact HB.out))))
                                      (case aL => have := LMc47.out; omega)
                                      intro v333 w56 ho hb hg hat
                                      rw [← Ny332.out] at ho
                                      have n0_ := Aside0.mk (Kd.S_after (ok := (fun k_ => some k_ ≠ (.slice (some ad314) x11_3.length co48 : Value).ownBlock ∧ some k_ ≠ (v316 : Value).ownBlock)) (by (with_reducible repeat (first | apply Kd.S_alloc | apply Kd.S_drewN | apply Kd.S_drew)); exact HO_8.out) hg hat)
                                      have n1_ := Aside0.mk (Kd.R_after (ok := (fun k_ => some k_ ≠ (v316 : Value).ownBlock)) (by (with_reducible repeat (first | apply Kd.R_alloc | apply Kd.R_drewN | apply Kd.R_drew)); exact HO_11.out) hg hat)
                                      have n2_ := Aside0.mk (Kd.R_after (ok := (fun k_ => some k_ ≠ (.slice (some ad314) x11_3.length co48 : Value).ownBlock)) (by (with_reducible repeat (first | apply Kd.R_alloc | apply Kd.R_drewN | apply Kd.R_drew)); exact HO317.out) hg hat)
                                      have n3_ := Aside0.mk (hb)
                                      have n4_ := Aside0.mk ((show Kd.C (Kd.int .i64) w56 (some ad314) y321.length y321 from by rw [Ny321.out]; exact Kd.C_take (m := 0) ((Kd.R_reads' (Kd.R_after (ok := (fun k_ => some k_ ≠ (v316 : Value).ownBlock)) (by (with_reducible repeat (first | apply Kd.R_alloc | apply Kd.R_drewN | apply Kd.R_drew)); exact HO_11.out) hg hat)).2.2) KL51.out))
                                      have n5_ := Aside0.mk ((show Kd.C (Kd.int .i64) w56 A52 y328.length y328 from by rw [Ny328.out, KA52.out]; exact Kd.C_drop (m := ((ji44) : Int).toNat) (c := co48) ((Kd.R_reads' (Kd.R_after (ok := (fun k_ => some k_ ≠ (v316 : Value).ownBlock)) (by (with_reducible repeat (first | apply Kd.R_alloc | apply Kd.R_drewN | apply Kd.R_drew)); exact HO_11.out) hg hat)).2.2) KL52.out ((Kd.R_reads' (Kd.R_after (ok := (fun k_ => some k_ ≠ (v316 : Value).ownBlock)) (by (with_reducible repeat (first | apply Kd.R_alloc | apply Kd.R_drewN | apply Kd.R_drew)); exact HO_11.out) hg hat)).2.1)))
                                      have n6_ := Aside0.mk (ho)
                                      clear HO_8
                                      clear HO_11
                                      clear HO317
                                      clear HB
                                      clear HR324
                                      clear HR331
                                      clear HO327
                                      have HO_8 := n0_
                                      have HO_11 := n1_
                                      have HO317 := n2_
                                      have HB := n3_
                                      have HR324 := n4_
                                      have HR331 := n5_
                                      have HO334 := n6_
                                      clear n0_ n1_ n2_ n3_ n4_ n5_ n6_
                                      clear ho hb hg hat
                                      refine hK.out _ _ trivial (fun hHeld => ?_)
                                      clear hK K
                                      refine norm_ (a' := ?_) ?_ ?_
                                      rotate_left
                                      · show Act.put _ (some 73) _ = _
                                        simp only [Act.put, List.setIfInBounds_toArray, List.set_cons_zero, List.set_cons_succ, i64_w, i32_w]
                                        rfl
                                      refine pure_ (i := 10) (N := some 11) (v := ?_) (a' := ?_) #[true, true, true, true, true, true, true, true, true, true, true] rfl rfl (any_of HT_.out (by kernel_rfl)) (fun _ _ _ h => h) (Or.inl ⟨by rfl, ?_⟩) ?_ ?_
                                      rotate_left
                                      · intro w'
                                        go_simp
                                        with_reducible rfl
                                      rotate_left
                                      · simp only [Act.put, List.setIfInBounds_toArray, List.set_cons_zero, List.set_cons_succ, i64_w, i32_w]
                                        rfl
                                      refine done_ (done_of HT_.out (by kernel_rfl)) ?_
                                      try go_wp2
                                      go_roundg k3
                                      case measure => have := HK1.out; have := HK2.out; have := HK3.out; omega
                                      case rel => exact ⟨(wrap64 (x9_3 + 1)), (y332), (y315), (by first | rfl | (simp; done) | (simp [*]; done)), H', ⟨by have := HK1.out; have := HK2.out; have := HK3.out; omega⟩, ⟨by (with_reducible repeat (first | apply Kd.S_alloc | apply Kd.S_drewN | apply Kd.S_drew)); exact Kd.S_mono HO_8.out (fun _ hk => ⟨hk.2, hk.1.2⟩)⟩, ⟨by (with_reducible repeat (first | apply Kd.R_alloc | apply Kd.R_drewN | apply Kd.R_drew)); exact Kd.R_mono HO334.out (fun _ hk => hk.2)⟩, ⟨by (with_reducible repeat (first | apply Kd.R_alloc | apply Kd.R_drewN | apply Kd.R_drew)); exact Kd.R_mono HO317.out (fun _ hk => hk.2)⟩, ⟨by repeat (first | (with_reducible first | exact HB.out | apply below_alloc | apply pw_below_drewN | apply below_drew1) | exact HB.out)⟩⟩
                                    · rw [if_neg c47] at H
                                      exact absurd H (by simp)
                                  · rw [if_neg c46] at H
                                    exact absurd H (by simp)
                                · rw [if_neg c45] at H
                                  exact absurd H (by simp)
                              · rw [if_neg c43] at H
                                exact absurd H (by simp)
                            · rw [if_neg c42] at H
                              exact absurd H (by simp)
                          · rw [if_neg c41] at H
                            exact absurd H (by simp)
                        · rw [if_neg c40] at H
                          exact absurd H (by simp)
                    · rw [if_neg c16] at H
                      have c16b0 : decide (0 < (x11_3.length : Int)) = false := decide_eq_false c16
                      have c16b1 : decide (0 < x11_3.length) = false := decide_eq_false (by omega)
                      clear c16
                      by_cases c57 : x8_1.length < 5864062014805
                      · rw [if_pos c57] at H
                        have LMc57 := Aside0.mk c57
                        clear c57
                        obtain ⟨y335, hy335⟩ : ∃ y_ : List (List Int), y_ = (x8_1 ++ [x12_3]) := ⟨_, rfl⟩
                        replace H : (gamplaw07_made.l0 k3 l1 (wrap64 ((Int.tmod (wrap64 (a0)) a2) + 1)) y335 x9_3 (wrap64 (x10_1 + 1))) = some r := by first | (rw [hy335]; with_reducible exact H) | (have H2_ := (Option.bind_some _ _).symm.trans H; rw [hy335]; with_reducible exact H2_) | (have H2_ := (Option.bind_some _ _).symm.trans H; with_reducible exact H2_) | with_reducible exact H | (rw [hy335]; exact H) | exact H
                        have Ny335 := Aside0.mk hy335
                        clear hy335
                        have H' := Aside0.mk H
                        clear H
                        obtain ⟨Ao58, co58, eo58⟩ := Kd.R_slice HO_11.out
                        subst eo58
                        obtain ⟨Ao60, co60, eo60⟩ := Kd.R_slice HO_12.out
                        subst eo60
                        go_wp2_with (first | ((with_reducible refine gate_builtin (b := .append) (xs := #[.tmp 74, .tmp 76]) rfl ?_); at_builtin; refine Kd.S_append (Kd.slice 3 (Kd.int .i64)) (w0 := w) w.heap.size rfl (.tmp 74) (.tmp 76) 22 24 (.slice none 0 0) 24 rfl Try.underlying22 info24 rfl (by decide) (by omega) u8 x8_1 x12_3 [.slice Ao60 x12_3.length co60] (fun k_ => some k_ ≠ (.slice Ao58 x11_3.length co58 : Value).ownBlock) (fun k_ => some k_ = (.slice Ao60 x12_3.length co60 : Value).ownBlock) rfl rfl ?aP (fun k_ hk_ => ((Kd.R_mono (ok' := fun k_ => ((fun k_ => some k_ ≠ (.slice Ao58 x11_3.length co58 : Value).ownBlock)) k_ ∧ some k_ ≠ (u8 : Value).ownBlock) (Kd.R_apart' (HO_12.out) (Kd.S_typed HO_8.out) (by decide)) (fun k_ hk => ⟨hk.1, hk.2⟩))).1 k_ hk_.symm) ?aF ?aO ?aB ?aS ?aL ?_; (case aP => exact Kd.M_row (Kd.R_mono (Kd.R_tight rfl (Kd.R_mono (ok' := fun k_ => ((fun k_ => some k_ ≠ (.slice Ao58 x11_3.length co58 : Value).ownBlock)) k_ ∧ some k_ ≠ (u8 : Value).ownBlock) (Kd.R_apart' (HO_12.out) (Kd.S_typed HO_8.out) (by decide)) (fun k_ hk => ⟨hk.1, hk.2⟩))) (fun _ h_ => h_))); (case aB => exact (by repeat (first | (with_reducible first | exact HB.out | apply below_alloc | apply pw_below_drewN | apply below_drew1) | exact HB.out))); (case aF => exact (fun k_ hk => Kd.fresh' (Kd.R_lt (by (with_reducible repeat (first | apply Kd.R_alloc | apply Kd.R_drewN | apply Kd.R_drew)); exact HO_11.out)) k_ hk)); (case aO => exact (by (with_reducible repeat (first | apply Kd.S_alloc | apply Kd.S_drewN | apply Kd.S_drew)); exact Kd.S_mono HO_8.out (fun k_ hk => ⟨hk.1, fun e_ => hk.2 e_⟩))); (case aS => exact (below_size (by repeat (first | (with_reducible first | exact HB.out | apply below_alloc | apply pw_below_drewN | apply below_drew1) | exact HB.out)))); (case aL => have := LMc57.out; omega); intro v336 w59 ho hb hg hat; rw [← Ny335.out] at ho; have n0_ := Aside0.mk (Kd.R_over' (by (with_reducible repeat (first | apply Kd.R_alloc | apply Kd.R_drewN | apply Kd.R_drew)); exact HO_11.out) (Kd.S_typed (by (with_reducible repeat (first | apply Kd.S_alloc | apply Kd.S_drewN | apply Kd.S_drew)); exact HO_8.out)) (by decide) hg); have n1_ := Aside0.mk (hb); have n2_ := Aside0.mk (ho); clear HO_11; clear HB; clear HO_8; clear HO_12; have HO_11 := n0_; have HB := n1_; have HO337 := n2_; clear n0_ n1_ n2_; clear ho hb hg hat))
                        go_roundg k3
                        case measure => have := HK1.out; have := HK2.out; have := HK3.out; omega
                        case rel => exact ⟨(y335), (x9_3), (wrap64 (x10_1 + 1)), (by first | rfl | (simp; done) | (simp [*]; done)), (by first | rfl | (simp; done) | (simp [*]; done)), H', ⟨by have := HK1.out; have := HK2.out; have := HK3.out; omega⟩, ⟨by (with_reducible repeat (first | apply Kd.S_alloc | apply Kd.S_drewN | apply Kd.S_drew)); exact Kd.S_mono HO337.out (fun _ hk => trivial)⟩, ⟨by repeat (first | (with_reducible first | exact HB.out | apply below_alloc | apply pw_below_drewN | apply below_drew1) | exact HB.out)⟩⟩
                      · rw [if_neg c57] at H
                        exact absurd H (by simp)
        · rw [if_neg c7] at H
          have c7b0 : decide (x10_1 < (wrap64 ((Int.tmod (wrap64 (a0)) a2) + 1))) = false := decide_eq_false c7
          clear c7
          obtain rfl := Option.some.inj H
          go_wp2
          go_ret
          exact ⟨_, by first | rfl | (simp [errW_none, errW_some] <;> rfl) | (simp [*, errW_none, errW_some] <;> rfl), by (with_reducible repeat (first | apply Kd.S_alloc | apply Kd.S_drewN | apply Kd.S_drew)); exact HO_8.out, by repeat (first | (with_reducible first | exact HB.out | apply below_alloc | apply pw_below_drewN | apply below_drew1) | exact HB.out)⟩
end Go.Proofs.Ytilabipmgcpnjaa.Fn

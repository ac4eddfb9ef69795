/- The declarations of Pbx3 that the claim Qe needs. -/
import Derived.Test.YtdldfdcedjmneaaQeTkP
import Derived.Test.YtdldfdcedjmneaaQePbx0
import Derived.Test.YtdldfdcedjmneaaQePbx1
import Derived.Test.YtdldfdcedjmneaaQePbx2
namespace Go.Proofs.Ytdldfdcedjmneaa.Pb
open Go.RowKit Go.Proofs.Ytdldfdcedjmneaa.Own Go.Proofs.YtdldfdcedjmneaaW.PrintWords Go.Proofs.YtdldfdcedjmneaaW.PrintLast Go.Proofs.YtdldfdcedjmneaaW.PrintMore
attribute [local go_sem] max2_int min2_int max_two min_two max_three min_three max_four min_four
set_option linter.unusedVariables false
set_option linter.unusedSimpArgs false
mutual
def strap_move.l0 : Nat → List Int → List Int → Bool → Bool → Option (Bool × List Int × List Int)
  | 0, _, _, _, _ => none
  | k + 1, x0, x1, x5, x6 => if x6 = true then (strap_move.l1 k x0 x1 x5 false (wrap64 ((x0.length : Int) - 1)) 0) else (some (x5, x0, x1))
def strap_move.l1 : Nat → List Int → List Int → Bool → Bool → Int → Int → Option (Bool × List Int × List Int)
  | 0, _, _, _, _, _, _ => none
  | k + 1, x0, x1, x5, x6, x11, x12 => if x12 < x11 then ((strap_perm_begins.f x1 x12).bind fun t134 => (if t134 = true then ((strap_perm_ends.f k x0 x12).bind fun t135 => (if t135 = true then (strap_move.l1 k x0 x1 x5 x6 x11 (wrap64 (x12 + 1))) else ((strap_perm_behind.f k x0 x12).bind fun t136 => (if 0 ≤ (wrap64 (x12 + 1)) then (if (wrap64 (x12 + 1)) < (x1.length : Int) then (if 0 ≤ x12 then (if x12 < (x1.length : Int) then (strap_move.l1 k t136 ((x1.set (x12 : Int).toNat (rd x1 (wrap64 (x12 + 1)))).set ((wrap64 (x12 + 1)) : Int).toNat (rd x1 x12)) true true x11 (wrap64 (x12 + 1))) else (none)) else (none)) else (none)) else (none))))) else (strap_move.l1 k x0 x1 x5 x6 x11 (wrap64 (x12 + 1))))) else (strap_move.l0 k x0 x1 x5 x6)
end
def strap_move.f (k : Nat) (l0 : List Int) (l1 : List Int) : Option (Bool × List Int × List Int) := strap_move.l0 k l0 l1 false true
def strap_move.T10 : Bool × List (List Nat × List Nat) := (true, [([], []), ([], []), ([], []), ([], []), ([3], [3]), ([], []), ([], []), ([6], [6]), ([5, 7], [5, 7]), ([8], [8]), ([], []), ([], []), ([10, 11], [10, 11]), ([12], [12]), ([0, 1, 0, 1, 5, 6, 7, 8, 9, 13], [0, 1]), ([14, 9, 0, 1, 5, 6, 7, 8, 9, 13], [9, 14]), ([2, 4, 0, 1, 2, 3, 4, 5, 6, 7, 8, 9, 10, 11, 12, 13, 14, 15], [2, 4]), ([16, 13, 15, 0, 1, 2, 3, 4, 5, 6, 7, 8, 9, 10, 11, 12, 13, 14, 15], [13, 16])])
def strap_move.B10 : List Nat := [0, 0, 0, 0, 8, 0, 0, 64, 224, 480, 0, 0, 3072, 7168, 16355, 32739, 65535, 131071]
theorem strap_move.tab10 : rtab .any (opsOf Try.f104 10) = strap_move.T10 := by kernel_rfl
theorem strap_move.bits10 : waitsOk strap_move.T10.2 strap_move.B10 = true := by kernel_rfl
set_option maxHeartbeats 8000000 in
set_option maxRecDepth 100000 in
theorem strap_move.calls (k : Nat) (P0_ : Nat → Prop) (u9000_ : Value) (l0 : List Int) (P1_ : Nat → Prop) (u9001_ : Value) (l1 : List Int) (r1 : Bool) (r2 : List Int) (r3 : List Int) (w0 w : World) (hB : Below w0.heap.size w0 w) (ho0 : Kd.R (Kd.int .i64) 3 w w0.heap.size P0_ u9000_ l0) (hp0_1 : ∀ k_, P0_ k_ → ¬ P1_ k_) (ho1 : Kd.R (Kd.int .i64) 3 w w0.heap.size P1_ u9001_ l1) (hp1_0 : ∀ k_, P1_ k_ → ¬ P0_ k_) (h : strap_move.f k l0 l1 = some (r1, r2, r3)) :
  Calls Try.prog 104 #[u9000_, u9001_] w fun e w' => e = .returned (.bool r1) ∧ Kd.R (Kd.int .i64) 3 w' w0.heap.size (fun k_ => ((P0_ k_ ∨ P1_ k_) ∨ w.heap.size ≤ k_)) u9000_ r2 ∧ Kd.R (Kd.int .i64) 3 w' w0.heap.size (fun k_ => ((P0_ k_ ∨ P1_ k_) ∨ w.heap.size ≤ k_)) u9001_ r3 ∧ Below w0.heap.size w0 w' ∧ Kept w w' (fun k_ => P0_ k_ ∨ P1_ k_) := by
 have HO0 := Aside0.mk (show Kd.R (Kd.int .i64) 3 w w0.heap.size (fun k_ => ((P0_ k_ ∨ P1_ k_) ∨ w.heap.size ≤ k_) ∧ some k_ ≠ (u9001_ : Value).ownBlock) u9000_ l0 from Kd.R_mono ho0 (fun k_ hk => ⟨(.inl (.inl hk)), fun e_ => hp0_1 k_ hk (ho1.1 k_ e_.symm)⟩))
 have HO1 := Aside0.mk (show Kd.R (Kd.int .i64) 3 w w0.heap.size (fun k_ => ((P0_ k_ ∨ P1_ k_) ∨ w.heap.size ≤ k_) ∧ some k_ ≠ (u9000_ : Value).ownBlock) u9001_ l1 from Kd.R_mono ho1 (fun k_ hk => ⟨(.inl (.inr hk)), fun e_ => hp1_0 k_ hk (ho0.1 k_ e_.symm)⟩))
 have HK := Aside0.mk (Kept.refl w (fun k_ => P0_ k_ ∨ P1_ k_))
 have HW0 := Aside0.mk hB.size
 have HB := Aside0.mk hB
 clear hB
 have H : (strap_move.l0 k l0 l1 false true) = some (r1, r2, r3) := h
 clear h
 have H' := Aside0.mk H
 clear H
 go_enter Try.func104, Try.ntmps104
 go_wp2
 go_loopg [5, 6] k (fun kq v5 v6 w' => ∃ (x0_1 : List Int) (x1_1 : List Int) (x5_1 : Bool) (x6_1 : Bool), v5 = .bool x5_1 ∧ v6 = .bool x6_1 ∧ Aside0 (strap_move.l0 kq x0_1 x1_1 x5_1 x6_1 = some (r1, r2, r3)) ∧ Aside0 (kq ≤ k) ∧ Aside0 (Kd.R (Kd.int .i64) 3 w' w0.heap.size (fun k_ => ((P0_ k_ ∨ P1_ k_) ∨ w.heap.size ≤ k_) ∧ some k_ ≠ (u9001_ : Value).ownBlock) u9000_ x0_1) ∧ Aside0 (Kd.R (Kd.int .i64) 3 w' w0.heap.size (fun k_ => ((P0_ k_ ∨ P1_ k_) ∨ w.heap.size ≤ k_) ∧ some k_ ≠ (u9000_ : Value).ownBlock) u9001_ x1_1) ∧ Aside0 (Kept w w' (fun k_ => P0_ k_ ∨ P1_ k_)) ∧ Aside0 (Below w0.heap.size w0 w'))
 case atStart => exact ⟨(l0), (l1), (false), (true), (by first | rfl | (simp; done) | (simp [*]; done)), (by first | rfl | (simp; done) | (simp [*]; done)), H', ⟨Nat.le_refl _⟩, ⟨rl HO0⟩, ⟨rl HO1⟩, ⟨by repeat (first | (with_reducible first | exact HK.out | apply Kept.alloc | apply Kept.drewN | apply Kept.drew) | exact HK.out)⟩, ⟨bl HB⟩⟩
 case round =>
  clear H'
  try clear c1
  try clear p1
  try clear p2
  obtain ⟨x0_1, x1_1, x5_1, x6_1, rfl, rfl, HA, HK1, HO_0, HO_1, HK, HB⟩ := hrel
  cases gk with
  | zero => exact absurd HA.out (by simp [strap_move.l0])
  | succ k1 =>
   have H := HA.out
   clear HA
   simp only [strap_move.l0] at H
   by_cases c3 : x6_1 = true
   ·subst c3
    have H1 : (strap_move.l1 k1 x0_1 x1_1 x5_1 false (wrap64 ((x0_1.length : Int) - 1)) 0) = some (r1, r2, r3) := by rw [if_pos rfl] at H; exact H
    clear H
    have H := H1
    clear H1
    have H' := Aside0.mk H
    clear H
    obtain ⟨Ao4, co4, eo4⟩ := Kd.R_slice HO_0.out
    subst eo4
    go_wp2
    go_loopg [5, 6, 12] k1 (fun kq v5 v6 v12 w' => ∃ (x0_2 : List Int) (x1_2 : List Int) (x5_2 : Bool) (x6_2 : Bool) (x12_2 : Int), v5 = .bool x5_2 ∧ v6 = .bool x6_2 ∧ v12 = .int .i64 x12_2 ∧ Aside0 (strap_move.l1 kq x0_2 x1_2 x5_2 x6_2 (wrap64 ((x0_1.length : Int) - 1)) x12_2 = some (r1, r2, r3)) ∧ Aside0 (kq ≤ k1) ∧ Aside0 (Kd.R (Kd.int .i64) 3 w' w0.heap.size (fun k_ => ((P0_ k_ ∨ P1_ k_) ∨ w.heap.size ≤ k_) ∧ some k_ ≠ (u9001_ : Value).ownBlock) (.slice Ao4 x0_1.length co4) x0_2) ∧ Aside0 (Kd.R (Kd.int .i64) 3 w' w0.heap.size (fun k_ => ((P0_ k_ ∨ P1_ k_) ∨ w.heap.size ≤ k_) ∧ some k_ ≠ ((.slice Ao4 x0_1.length co4) : Value).ownBlock) u9001_ x1_2) ∧ Aside0 (Kept w w' (fun k_ => P0_ k_ ∨ P1_ k_)) ∧ Aside0 (Below w0.heap.size w0 w'))
    case atStart => exact ⟨(x0_1), (x1_1), (x5_1), (false), (0), (by first | rfl | (simp; done) | (simp [*]; done)), (by first | rfl | (simp; done) | (simp [*]; done)), (by first | rfl | (simp; done) | (simp [*]; done)), H', ⟨Nat.le_refl _⟩, ⟨rl HO_0⟩, ⟨rl HO_1⟩, ⟨by repeat (first | (with_reducible first | exact HK.out | apply Kept.alloc | apply Kept.drewN | apply Kept.drew) | exact HK.out)⟩, ⟨bl HB⟩⟩
    case round =>
     clear H'
     try clear c1
     try clear p1
     try clear p2
     try clear c3
     try clear p1
     try clear p2
     obtain ⟨x0_2, x1_2, x5_2, x6_2, x12_2, rfl, rfl, rfl, HA, HK2, HO_0, HO_1, HK, HB⟩ := hrel
     have hl0_2 := (Kd.R_reads' HO_0.out).1
     rw [hl0_2] at HO_0
     (try simp only [hl0_2])
     (try simp only [hl0_2] at HO_1)
     cases gk with
     | zero => exact absurd HA.out (by simp [strap_move.l1])
     | succ k2 =>
      have H := HA.out
      clear HA
      simp only [strap_move.l1] at H
      by_cases c5 : x12_2 < (wrap64 ((x0_1.length : Int) - 1))
      ·rw [if_pos c5] at H
       have c5b0 : decide (x12_2 < (wrap64 ((x0_1.length : Int) - 1))) = true := decide_eq_true c5
       (try simp only [hl0_2] at c5b0)
       clear c5
       replace H := Option.bind_eq_some_iff.mp H
       obtain ⟨t134, A60, H⟩ := H
       replace H : (if t134 = true then ((strap_perm_ends.f k2 x0_2 x12_2).bind fun t135 => (if t135 = true then (strap_move.l1 k2 x0_2 x1_2 x5_2 x6_2 (wrap64 ((x0_1.length : Int) - 1)) (wrap64 (x12_2 + 1))) else ((strap_perm_behind.f k2 x0_2 x12_2).bind fun t136 => (if 0 ≤ (wrap64 (x12_2 + 1)) then (if (wrap64 (x12_2 + 1)) < (x1_2.length : Int) then (if 0 ≤ x12_2 then (if x12_2 < (x1_2.length : Int) then (strap_move.l1 k2 t136 ((x1_2.set (x12_2 : Int).toNat (rd x1_2 (wrap64 (x12_2 + 1)))).set ((wrap64 (x12_2 + 1)) : Int).toNat (rd x1_2 x12_2)) true true (wrap64 ((x0_1.length : Int) - 1)) (wrap64 (x12_2 + 1))) else (none)) else (none)) else (none)) else (none))))) else (strap_move.l1 k2 x0_2 x1_2 x5_2 x6_2 (wrap64 ((x0_1.length : Int) - 1)) (wrap64 (x12_2 + 1)))) = some (r1, r2, r3) := H
       have A6 := Aside0.mk A60
       clear A60
       by_cases c7 : t134 = true
       ·subst c7
        have H1 : ((strap_perm_ends.f k2 x0_2 x12_2).bind fun t135 => (if t135 = true then (strap_move.l1 k2 x0_2 x1_2 x5_2 x6_2 (wrap64 ((x0_1.length : Int) - 1)) (wrap64 (x12_2 + 1))) else ((strap_perm_behind.f k2 x0_2 x12_2).bind fun t136 => (if 0 ≤ (wrap64 (x12_2 + 1)) then (if (wrap64 (x12_2 + 1)) < (x1_2.length : Int) then (if 0 ≤ x12_2 then (if x12_2 < (x1_2.length : Int) then (strap_move.l1 k2 t136 ((x1_2.set (x12_2 : Int).toNat (rd x1_2 (wrap64 (x12_2 + 1)))).set ((wrap64 (x12_2 + 1)) : Int).toNat (rd x1_2 x12_2)) true true (wrap64 ((x0_1.length : Int) - 1)) (wrap64 (x12_2 + 1))) else (none)) else (none)) else (none)) else (none))))) = some (r1, r2, r3) := by rw [if_pos rfl] at H; exact H
        clear H
        have H := H1
        clear H1
        replace H := Option.bind_eq_some_iff.mp H
        obtain ⟨t135, A80, H⟩ := H
        replace H : (if t135 = true then (strap_move.l1 k2 x0_2 x1_2 x5_2 x6_2 (wrap64 ((x0_1.length : Int) - 1)) (wrap64 (x12_2 + 1))) else ((strap_perm_behind.f k2 x0_2 x12_2).bind fun t136 => (if 0 ≤ (wrap64 (x12_2 + 1)) then (if (wrap64 (x12_2 + 1)) < (x1_2.length : Int) then (if 0 ≤ x12_2 then (if x12_2 < (x1_2.length : Int) then (strap_move.l1 k2 t136 ((x1_2.set (x12_2 : Int).toNat (rd x1_2 (wrap64 (x12_2 + 1)))).set ((wrap64 (x12_2 + 1)) : Int).toNat (rd x1_2 x12_2)) true true (wrap64 ((x0_1.length : Int) - 1)) (wrap64 (x12_2 + 1))) else (none)) else (none)) else (none)) else (none)))) = some (r1, r2, r3) := H
        have A8 := Aside0.mk A80
        clear A80
        by_cases c9 : t135 = true
        ·subst c9
         have H1 : (strap_move.l1 k2 x0_2 x1_2 x5_2 x6_2 (wrap64 ((x0_1.length : Int) - 1)) (wrap64 (x12_2 + 1))) = some (r1, r2, r3) := by rw [if_pos rfl] at H; exact H
         clear H
         have H := H1
         clear H1
         have H' := Aside0.mk H
         clear H
         obtain ⟨Ao10, co10, eo10⟩ := Kd.R_slice HO_1.out
         subst eo10
         go_wp2_with (first | ((with_reducible refine gate_callee (f := 95) rfl ?_); refine gL 17 Try.func95 #[.slice Ao10 x1_2.length co10, .int .i64 x12_2] ?_; (with_reducible refine (strap_perm_begins.calls _ _ x1_2 x12_2 true _ ?side1 ?side2 A6.out).mono ?_); (case side1 => exact cl ((Kd.R_reads' HO_1.out).2.2)); (case side2 => exact (Kd.R_reads' HO_1.out).2.1); rintro e w' ⟨rfl, ⟨nd, rfl⟩⟩; refine ⟨_, rfl, ?_⟩) | (go_at_call 96; (with_reducible refine (strap_perm_ends.calls k2 _ _ x0_2 x12_2 true _ ?side1 ?side2 A8.out).mono ?_); (case side1 => exact cl ((Kd.R_reads' HO_0.out).2.2)); (case side2 => exact (Kd.R_reads' HO_0.out).2.1); rintro e w11 ⟨rfl, hb⟩; have n0_ := Aside0.mk (Kd.R_below (rl HO_0) hb); have n1_ := Aside0.mk (Kd.R_below (rl HO_1) hb); have n2_ := Aside0.mk (Kept.below (S := (fun k_ => P0_ k_ ∨ P1_ k_)) (by repeat (first | (with_reducible first | exact HK.out | apply Kept.alloc | apply Kept.drewN | apply Kept.drew) | exact HK.out)) hb); have n3_ := Aside0.mk (below_step (bl HB) hb); clear HO_0; clear HO_1; clear HK; clear HB; have HO_0 := n0_; have HO_1 := n1_; have HK := n2_; have HB := n3_; clear n0_ n1_ n2_ n3_; (try clear hb); (try clear hb2); (try clear hk); (try clear hi)))
         (try simp only [← hl0_2])
         go_roundg k2
         case measure => have := HK1.out; have := HK2.out; omega
         case rel => exact ⟨(x0_2), (x1_2), (x5_2), (x6_2), (wrap64 (x12_2 + 1)), (by first | rfl | (simp; done) | (simp [*]; done)), (by first | rfl | (simp; done) | (simp [*]; done)), (by first | rfl | (simp; done) | (simp [*]; done)), H', ⟨by have := HK1.out; have := HK2.out; omega⟩, ⟨by (try simp only [hl0_2]); (with_reducible repeat (first | apply Kd.R_alloc | apply Kd.R_drewN | apply Kd.R_drew)); exact HO_0.out⟩, ⟨by (try simp only [hl0_2]); (with_reducible repeat (first | apply Kd.R_alloc | apply Kd.R_drewN | apply Kd.R_drew)); exact HO_1.out⟩, ⟨by repeat (first | (with_reducible first | exact HK.out | apply Kept.alloc | apply Kept.drewN | apply Kept.drew) | exact HK.out)⟩, ⟨bl HB⟩⟩
        ·replace c9 := Bool.eq_false_iff.mpr c9
         subst c9
         have H1 : ((strap_perm_behind.f k2 x0_2 x12_2).bind fun t136 => (if 0 ≤ (wrap64 (x12_2 + 1)) then (if (wrap64 (x12_2 + 1)) < (x1_2.length : Int) then (if 0 ≤ x12_2 then (if x12_2 < (x1_2.length : Int) then (strap_move.l1 k2 t136 ((x1_2.set (x12_2 : Int).toNat (rd x1_2 (wrap64 (x12_2 + 1)))).set ((wrap64 (x12_2 + 1)) : Int).toNat (rd x1_2 x12_2)) true true (wrap64 ((x0_1.length : Int) - 1)) (wrap64 (x12_2 + 1))) else (none)) else (none)) else (none)) else (none))) = some (r1, r2, r3) := by rw [if_neg (show ¬ (false = true) by decide)] at H; exact H
         clear H
         have H := H1
         clear H1
         replace H := Option.bind_eq_some_iff.mp H
         obtain ⟨t136, A120, H⟩ := H
         replace H : (if 0 ≤ (wrap64 (x12_2 + 1)) then (if (wrap64 (x12_2 + 1)) < (x1_2.length : Int) then (if 0 ≤ x12_2 then (if x12_2 < (x1_2.length : Int) then (strap_move.l1 k2 t136 ((x1_2.set (x12_2 : Int).toNat (rd x1_2 (wrap64 (x12_2 + 1)))).set ((wrap64 (x12_2 + 1)) : Int).toNat (rd x1_2 x12_2)) true true (wrap64 ((x0_1.length : Int) - 1)) (wrap64 (x12_2 + 1))) else (none)) else (none)) else (none)) else (none)) = some (r1, r2, r3) := H
         have A12 := Aside0.mk A120
         clear A120
         obtain ⟨ji13, hji13⟩ : ∃ j_ : Int, (wrap64 (x12_2 + 1)) = j_ := ⟨_, rfl⟩
         replace H : (if 0 ≤ (ji13) then (if (ji13) < (x1_2.length : Int) then (if 0 ≤ x12_2 then (if x12_2 < (x1_2.length : Int) then (strap_move.l1 k2 t136 ((x1_2.set (x12_2 : Int).toNat (rd x1_2 (ji13))).set ((ji13) : Int).toNat (rd x1_2 x12_2)) true true (wrap64 ((x0_1.length : Int) - 1)) ji13) else (none)) else (none)) else (none)) else (none)) = some (r1, r2, r3) := by first | (rw [hji13] at H; exact H) | (simp only [hji13] at H ⊢; exact H)
         (try rw [hji13] at A6)
         (try rw [hji13] at A8)
         (try rw [hji13] at A12)
         have hji13w : (IntKind.i64.wrap (x12_2 + 1)) = ji13 := (i64_w _).trans hji13
         by_cases c14 : 0 ≤ (ji13)
         ·rw [if_pos c14] at H
          have c14b0 : decide (0 ≤ (ji13)) = true := decide_eq_true c14
          clear c14
          by_cases c15 : (ji13) < (x1_2.length : Int)
          ·rw [if_pos c15] at H
           have c15b0 : decide ((ji13) < (x1_2.length : Int)) = true := decide_eq_true c15
           (try simp only [hl0_2] at c15b0)
           clear c15
           by_cases c16 : 0 ≤ x12_2
           ·rw [if_pos c16] at H
            have c16b0 : decide (0 ≤ x12_2) = true := decide_eq_true c16
            clear c16
            by_cases c17 : x12_2 < (x1_2.length : Int)
            ·rw [if_pos c17] at H
             have c17b0 : decide (x12_2 < (x1_2.length : Int)) = true := decide_eq_true c17
             (try simp only [hl0_2] at c17b0)
             clear c17
             obtain ⟨y139, hy139⟩ : ∃ y_ : List Int, y_ = (x1_2.set (x12_2 : Int).toNat (rd x1_2 (ji13))) := ⟨_, rfl⟩
             replace H : (strap_move.l1 k2 t136 (y139.set ((ji13) : Int).toNat (rd x1_2 x12_2)) true true (wrap64 ((x0_1.length : Int) - 1)) ji13) = some (r1, r2, r3) := by first | (rw [hy139]; with_reducible exact H) | (have H2_ := (Option.bind_some _ _).symm.trans H; rw [hy139]; with_reducible exact H2_) | (have H2_ := (Option.bind_some _ _).symm.trans H; with_reducible exact H2_) | with_reducible exact H | (rw [hy139]; exact H) | exact H
             have Ny139 := Aside0.mk hy139
             clear hy139
             obtain ⟨y140, hy140⟩ : ∃ y_ : List Int, y_ = (y139.set ((ji13) : Int).toNat (rd x1_2 x12_2)) := ⟨_, rfl⟩
             replace H : (strap_move.l1 k2 t136 y140 true true (wrap64 ((x0_1.length : Int) - 1)) ji13) = some (r1, r2, r3) := by first | (rw [hy140]; with_reducible exact H) | (have H2_ := (Option.bind_some _ _).symm.trans H; rw [hy140]; with_reducible exact H2_) | (have H2_ := (Option.bind_some _ _).symm.trans H; with_reducible exact H2_) | with_reducible exact H | (rw [hy140]; exact H) | exact H
             have Ny140 := Aside0.mk hy140
             clear hy140
             have H' := Aside0.mk H
             clear H
             obtain ⟨Ao20, co20, eo20⟩ := Kd.R_slice HO_1.out
             subst eo20
             try go_wp2_with (first | ((with_reducible refine gate_callee (f := 95) rfl ?_); refine gL 17 Try.func95 #[.slice Ao20 x1_2.length co20, .int .i64 x12_2] ?_; (with_reducible refine (strap_perm_begins.calls _ _ x1_2 x12_2 true _ ?side1 ?side2 A6.out).mono ?_); (case side1 => exact cl ((Kd.R_reads' HO_1.out).2.2)); (case side2 => exact (Kd.R_reads' HO_1.out).2.1); rintro e w' ⟨rfl, ⟨nd, rfl⟩⟩; refine ⟨_, rfl, ?_⟩; (try (rw [drewN_self wr]; generalize hq_ : World.drewN wr _ = wr; have n0_ : Aside0 (Kd.R (Kd.int .i64) 3 wr w0.heap.size (fun k_ => ((P0_ k_ ∨ P1_ k_) ∨ w.heap.size ≤ k_) ∧ some k_ ≠ (.slice Ao20 x1_2.length co20 : Value).ownBlock) (.slice Ao4 x0_2.length co4) x0_2) := ⟨by rw [← hq_]; exact (rl HO_0)⟩; have n1_ : Aside0 (Kd.R (Kd.int .i64) 3 wr w0.heap.size (fun k_ => ((P0_ k_ ∨ P1_ k_) ∨ w.heap.size ≤ k_) ∧ some k_ ≠ (.slice Ao4 x0_2.length co4 : Value).ownBlock) (.slice Ao20 x1_2.length co20) x1_2) := ⟨by rw [← hq_]; exact (rl HO_1)⟩; have n2_ : Aside0 (Kept w wr (fun k_ => P0_ k_ ∨ P1_ k_)) := ⟨by rw [← hq_]; exact (by repeat (first | (with_reducible first | exact HK.out | apply Kept.alloc | apply Kept.drewN | apply Kept.drew) | exact HK.out))⟩; have n3_ : Aside0 (Below w0.heap.size w0 wr) := ⟨by rw [← hq_]; exact (bl HB)⟩; clear HO_0 HO_1 HK HB hq_; have HO_0 := n0_; have HO_1 := n1_; have HK := n2_; have HB := n3_; clear n0_ n1_ n2_ n3_))) | (go_at_call 96; (with_reducible refine (strap_perm_ends.calls k2 _ _ x0_2 x12_2 false _ ?side1 ?side2 A8.out).mono ?_); (case side1 => exact cl ((Kd.R_reads' HO_0.out).2.2)); (case side2 => exact (Kd.R_reads' HO_0.out).2.1); rintro e w21 ⟨rfl, hb⟩; have n0_ := Aside0.mk (Kd.R_below (rl HO_0) hb); have n1_ := Aside0.mk (Kd.R_below (rl HO_1) hb); have n2_ := Aside0.mk (Kept.below (S := (fun k_ => P0_ k_ ∨ P1_ k_)) (by repeat (first | (with_reducible first | exact HK.out | apply Kept.alloc | apply Kept.drewN | apply Kept.drew) | exact HK.out)) hb); have n3_ := Aside0.mk (below_step (bl HB) hb); clear HO_0; clear HO_1; clear HK; clear HB; have HO_0 := n0_; have HO_1 := n1_; have HK := n2_; have HB := n3_; clear n0_ n1_ n2_ n3_; (try clear hb); (try clear hb2); (try clear hk); (try clear hi)) | ((with_reducible refine gate_callee (f := 93) rfl ?_); refine gL 26 Try.func93 #[.slice Ao4 x0_2.length co4, .int .i64 x12_2] ?_; (with_reducible refine (strap_perm_behind.calls k2 (fun k_ => some k_ = (.slice Ao4 x0_2.length co4 : Value).ownBlock) (.slice Ao4 x0_2.length co4) x0_2 x12_2 t136 w0 _ ?side1 ?side2 A12.out).mono ?_); (case side1 => repeat (first | (with_reducible first | exact HB.out | apply below_alloc | apply pw_below_drewN | apply below_drew1) | exact HB.out)); (case side2 => exact Kd.R_tight rfl HO_0.out); rintro e w22 ⟨rfl, hy0, hb, hkp⟩; refine ⟨_, rfl, ?_⟩; have n0_ := Aside0.mk (Kd.R_reok rfl hy0 (fun k_ e_ => HO_0.out.1 k_ e_)); have n1_ := Aside0.mk (Kd.R_mono (ok' := fun k_ => ((P0_ k_ ∨ P1_ k_) ∨ w.heap.size ≤ k_) ∧ some k_ ≠ (.slice Ao4 x0_2.length co4 : Value).ownBlock) (Kd.R_keptB (HO_1.out) hkp (fun k_ hk_ hs_ => (hk_.2) hs_)) (fun k_ hk_ => ⟨hk_.1.1, hk_.1.2⟩)); have n2_ := Aside0.mk (Kept.then_ (S := (fun k_ => P0_ k_ ∨ P1_ k_)) (by repeat (first | (with_reducible first | exact HK.out | apply Kept.alloc | apply Kept.drewN | apply Kept.drew) | exact HK.out)) hkp (fun k_ hs_ => (fun e_ => (HO_0.out.1 k_ e_.symm).1) hs_)); have n3_ := Aside0.mk (hb); clear HO_0; clear HO_1; clear HK; clear HB; have HO_0 := n0_; have HO_1 := n1_; have HK := n2_; have HB := n3_; clear n0_ n1_ n2_ n3_; (try clear hb); (try clear hkp); (try clear hy0)))
             have n0_ := Aside0.mk (Kd.R_drew HO_0.out)
             have n1_ := Aside0.mk (Kd.R_drew HO_1.out)
             have n2_ := Aside0.mk (Kept.drew HK.out)
             have n3_ := Aside0.mk (below_drew1 HB.out)
             clear HO_0 HO_1 HK HB
             have HO_0 := n0_; have HO_1 := n1_; have HK := n2_; have HB := n3_
             clear n0_ n1_ n2_ n3_
             have p137 : 0 ≤ ((ji13) : Int) := ofd
             have q137 : (ji13) < (x1_2.length : Int) := ofd
             obtain ⟨ad137, e137, hx137_0⟩ := Kd.at_int (Kd.R_reads' HO_1.out).2.2 (ji13) p137 q137
             cases e137
             replace p137 := eq_true p137
             replace q137 := eq_true q137
             have p138 : 0 ≤ (x12_2 : Int) := ofd
             have q138 : x12_2 < (x1_2.length : Int) := ofd
             obtain ⟨ad138, e138, hx138_0⟩ := Kd.at_int (Kd.R_reads' HO_1.out).2.2 x12_2 p138 q138
             obtain rfl : ad137 = ad138 := (by injection e138)
             replace p138 := eq_true p138
             replace q138 := eq_true q138
             have p18 : 0 ≤ (x12_2 : Int) := ofd
             have q18 : (x12_2 : Int) < ((x1_2.length : Int) : Int) := ofd
             obtain ⟨go18, co18, eo18, gb18, gl18, cl18, HG18⟩ := Kd.R_form HO_1.out (by omega)
             (first | cases eo18 | (injection eo18 with ea_ en_ ec_; (first | subst ea_ | (injection ea_ with ea_; subst ea_)); subst ec_; clear en_))
             have GB18 := Aside0.mk gb18
             have GG18 := Aside0.mk HG18
             clear gb18 gl18 HG18
             have HMgo18 := Aside0.mk (show ((P0_ go18 ∨ P1_ go18) ∨ w.heap.size ≤ go18) from (HO_1.out.1 _ rfl).1)
             (first | simp only [add_plain] at hx137_0 | skip)
             (first | simp only [add_plain] at hx138_0 | skip)
             obtain ⟨hx18_0, hf18_0⟩ := Kd.R_celln 0 HO_1.out (x12_2 : Int) p18 q18
             replace p18 := eq_true p18
             replace q18 := eq_true q18
             have HP24 := Kd.R_putn HO_1.out (x12_2 : Int) (rd x1_2 (ji13))
             rw [← Ny139.out] at HP24
             have HQ24 := Aside0.mk HP24
             clear HP24
             have p19 : 0 ≤ ((ji13) : Int) := ofd
             have q19 : ((ji13) : Int) < ((x1_2.length : Int) : Int) := ofd
             obtain ⟨hx19_0, hf19_0⟩ := Kd.R_celln 0 HQ24.out ((ji13) : Int) p19 q19
             replace p19 := eq_true p19
             replace q19 := eq_true q19
             have HP25 := Kd.R_putn HQ24.out ((ji13) : Int) (rd x1_2 x12_2)
             rw [← Ny140.out] at HP25
             have HQ25 := Aside0.mk HP25
             clear HP25
             refine start_ (n := 18) (S := fun w' => w'.cell? ⟨go18, ((ji13)).toNat, none⟩ = some (.int .i64 (rd x1_2 (ji13))) ∧ w'.cell? ⟨go18, (x12_2).toNat, none⟩ = some (.int .i64 (rd x1_2 x12_2))) (ds := [15, 17]) #[false, false, false, false, false, false, false, false, false, false, false, false, false, false, false, false, false, false] (by kernel_rfl) rfl rfl ⟨hx137_0, hx138_0⟩ (fun hHeld => ?_); refine with_tabW strap_move.tab10 strap_move.bits10 (fun HT_ HW_ => ?_)
             generalize w22.drew = w23 at HO_0 HO_1 HK HB GG18 HQ24 HQ25 hf18_0 hf19_0 hx137_0 hx138_0 hx18_0 hx19_0 hHeld ⊢
             refine pr 0 27 HT_ ?_
             refine pr 1 28 HT_ ?_
             refine pr 2 29 HT_ ?_
             refine pr 3 30 HT_ ?_
             refine pr 4 31 HT_ ?_
             refine pr 5 32 HT_ ?_
             refine pr 6 33 HT_ ?_
             refine pr 7 34 HT_ ?_
             refine pr 8 35 HT_ ?_
             refine pr 10 37 HT_ ?_
             refine pr 11 38 HT_ ?_
             refine pr 12 39 HT_ ?_
             refine tr 9 36 HT_ HW_ hHeld ?_
             refine tr 13 40 HT_ HW_ hHeld ?_
             refine pr 14 41 HT_ ?_
             refine la 15 (none) HT_ (fun K hK => ?_)
             refine sk ?_
             refine hK.out _ _ ?_
             clear hK K
             refine pr 16 42 HT_ ?_
             refine la 17 (none) HT_ (fun K hK => ?_)
             refine sk ?_
             refine hK.out _ _ ?_
             clear hK K
             refine dn HT_ ?_
             try go_wp2
             (try simp only [← hl0_2])
             go_roundg k2
             case measure => have := HK1.out; have := HK2.out; omega
             case rel => exact ⟨(t136), (y140), (true), (true), (ji13), (by first | rfl | (simp; done) | (simp [*]; done)), (by first | rfl | (simp; done) | (simp [*]; done)), (by first | rfl | (simp; done) | (simp only [← hji13] <;> (first | rfl | simp)) | (simp [*]; done)), H', ⟨by have := HK1.out; have := HK2.out; omega⟩, ⟨by (try simp only [hl0_2]); (with_reducible repeat (first | apply Kd.R_alloc | apply Kd.R_drewN | apply Kd.R_drew)); exact Kd.R_mono (Kd.R_far (p := ⟨go18, ((ji13) : Int).toNat, none⟩) (Kd.R_far (p := ⟨go18, (x12_2 : Int).toNat, none⟩) (Kd.R_mono HO_0.out (fun k_ hk => (⟨hk, fun e_ => hk.2 (by rw [e_]; rfl)⟩ : _ ∧ k_ ≠ go18))) (fun _ hk => hk.2) (.int .i64 (rd x1_2 (ji13)))) (fun _ hk => hk.2) (.int .i64 (rd x1_2 x12_2))) (fun _ hk => ⟨hk.1.1, hk.1.2⟩)⟩, ⟨by (try simp only [hl0_2]); (with_reducible repeat (first | apply Kd.R_alloc | apply Kd.R_drewN | apply Kd.R_drew)); exact HQ25.out⟩, ⟨by repeat (first | (with_reducible first | exact HK.out | apply Kept.alloc | apply Kept.drewN | apply Kept.drew | refine Kept.setCell ?_ HMgo18.out _ | refine Kept.setCell ?_ HMgo18.out _) | exact HK.out)⟩, ⟨bl HB⟩⟩
            ·rw [if_neg c17] at H
             exact absurd H (by simp)
           ·rw [if_neg c16] at H
            exact absurd H (by simp)
          ·rw [if_neg c15] at H
           exact absurd H (by simp)
         ·rw [if_neg c14] at H
          exact absurd H (by simp)
       ·replace c7 := Bool.eq_false_iff.mpr c7
        subst c7
        have H1 : (strap_move.l1 k2 x0_2 x1_2 x5_2 x6_2 (wrap64 ((x0_1.length : Int) - 1)) (wrap64 (x12_2 + 1))) = some (r1, r2, r3) := by rw [if_neg (show ¬ (false = true) by decide)] at H; exact H
        clear H
        have H := H1
        clear H1
        have H' := Aside0.mk H
        clear H
        obtain ⟨Ao26, co26, eo26⟩ := Kd.R_slice HO_1.out
        subst eo26
        go_wp2_with (first | ((with_reducible refine gate_callee (f := 95) rfl ?_); refine gL 17 Try.func95 #[.slice Ao26 x1_2.length co26, .int .i64 x12_2] ?_; (with_reducible refine (strap_perm_begins.calls _ _ x1_2 x12_2 false _ ?side1 ?side2 A6.out).mono ?_); (case side1 => exact cl ((Kd.R_reads' HO_1.out).2.2)); (case side2 => exact (Kd.R_reads' HO_1.out).2.1); rintro e w' ⟨rfl, ⟨nd, rfl⟩⟩; refine ⟨_, rfl, ?_⟩))
        (try simp only [← hl0_2])
        go_roundg k2
        case measure => have := HK1.out; have := HK2.out; omega
        case rel => exact ⟨(x0_2), (x1_2), (x5_2), (x6_2), (wrap64 (x12_2 + 1)), (by first | rfl | (simp; done) | (simp [*]; done)), (by first | rfl | (simp; done) | (simp [*]; done)), (by first | rfl | (simp; done) | (simp [*]; done)), H', ⟨by have := HK1.out; have := HK2.out; omega⟩, ⟨by (try simp only [hl0_2]); (with_reducible repeat (first | apply Kd.R_alloc | apply Kd.R_drewN | apply Kd.R_drew)); exact HO_0.out⟩, ⟨by (try simp only [hl0_2]); (with_reducible repeat (first | apply Kd.R_alloc | apply Kd.R_drewN | apply Kd.R_drew)); exact HO_1.out⟩, ⟨by repeat (first | (with_reducible first | exact HK.out | apply Kept.alloc | apply Kept.drewN | apply Kept.drew) | exact HK.out)⟩, ⟨bl HB⟩⟩
      ·rw [if_neg c5] at H
       have c5b0 : decide (x12_2 < (wrap64 ((x0_1.length : Int) - 1))) = false := decide_eq_false c5
       (try simp only [hl0_2] at c5b0)
       clear c5
       have H' := Aside0.mk H
       clear H
       go_wp2
       (try simp only [← hl0_2])
       go_roundg k2
       case measure => have := HK1.out; have := HK2.out; omega
       case rel => exact ⟨(x0_2), (x1_2), (x5_2), (x6_2), (by first | rfl | (simp; done) | (simp [*]; done)), (by first | rfl | (simp; done) | (simp [*]; done)), H', ⟨by have := HK1.out; have := HK2.out; omega⟩, ⟨by (try simp only [hl0_2]); (with_reducible repeat (first | apply Kd.R_alloc | apply Kd.R_drewN | apply Kd.R_drew)); exact HO_0.out⟩, ⟨by (try simp only [hl0_2]); (with_reducible repeat (first | apply Kd.R_alloc | apply Kd.R_drewN | apply Kd.R_drew)); exact HO_1.out⟩, ⟨by repeat (first | (with_reducible first | exact HK.out | apply Kept.alloc | apply Kept.drewN | apply Kept.drew) | exact HK.out)⟩, ⟨bl HB⟩⟩
   ·replace c3 := Bool.eq_false_iff.mpr c3
    subst c3
    have H1 : (some (x5_1, x0_1, x1_1)) = some (r1, r2, r3) := by rw [if_neg (show ¬ (false = true) by decide)] at H; exact H
    clear H
    have H := H1
    clear H1
    simp only [Option.some.injEq, Prod.mk.injEq] at H
    obtain ⟨rfl, rfl, rfl⟩ := H
    go_wp2
    go_ret
    exact ⟨by first | rfl | (simp [errW_none, errW_some] <;> rfl) | (simp [*, errW_none, errW_some] <;> rfl), by (with_reducible repeat (first | apply Kd.R_alloc | apply Kd.R_drewN | apply Kd.R_drew)); exact Kd.R_mono HO_0.out (fun _ hk => hk.1), by (with_reducible repeat (first | apply Kd.R_alloc | apply Kd.R_drewN | apply Kd.R_drew)); exact Kd.R_mono HO_1.out (fun _ hk => hk.1), by repeat (first | (with_reducible first | exact HB.out | apply below_alloc | apply pw_below_drewN | apply below_drew1) | exact HB.out), by repeat (first | (with_reducible first | exact HK.out | apply Kept.alloc | apply Kept.drewN | apply Kept.drew) | exact HK.out)⟩
def gampref05_Same.l0 : Nat → List Int → List Int → Int → Option (Bool)
  | 0, _, _, _ => none
  | k + 1, x0, x1, x5 => if x5 < (x0.length : Int) then (if 0 ≤ x5 then (if x5 < (x1.length : Int) then (if (rd x0 x5) = (rd x1 x5) then (gampref05_Same.l0 k x0 x1 (wrap64 (x5 + 1))) else (some false)) else (none)) else (none)) else (some true)
def gampref05_Same.f (k : Nat) (l0 : List Int) (l1 : List Int) : Option (Bool) := if (l0.length : Int) = (l1.length : Int) then (gampref05_Same.l0 k l0 l1 0) else (some false)
theorem gampref05_Same.mono_l : ∀ k, (∀ y0 y1 y2, LeO (gampref05_Same.l0 k y0 y1 y2) (gampref05_Same.l0 (k + 1) y0 y1 y2))
 | 0 => fun _ _ _ r h => by simp [gampref05_Same.l0] at h
 | k + 1 => by
  have ih0 := gampref05_Same.mono_l k
  ·intro y0 y1 y2
   unfold gampref05_Same.l0
   repeat' first
   | (with_reducible exact ih0 _ _ _)
   | (with_reducible exact LeO.refl _)
   | (with_reducible exact LeO.none _)
   | (with_reducible refine LeO.ite ?_ ?_)
   | (with_reducible refine LeO.bind ?_ (fun _ => ?_))
   | exact ih0 _ _ _
   | exact LeO.none _
   | refine LeO.ite ?_ ?_
   | refine LeO.bind ?_ (fun _ => ?_)
theorem gampref05_Same.mono : ∀ a0 a1 k, LeO (gampref05_Same.f k a0 a1) (gampref05_Same.f (k + 1) a0 a1) := by
  intro a0 a1 k
  have ih0 := gampref05_Same.mono_l k
  unfold gampref05_Same.f
  repeat' first
      | (with_reducible exact ih0 _ _ _)
      | (with_reducible exact LeO.refl _)
      | (with_reducible exact LeO.none _)
      | (with_reducible refine LeO.ite ?_ ?_)
      | (with_reducible refine LeO.bind ?_ (fun _ => ?_))
      | exact ih0 _ _ _
      | exact LeO.none _
      | refine LeO.ite ?_ ?_
      | refine LeO.bind ?_ (fun _ => ?_)
set_option maxHeartbeats 8000000 in
set_option maxRecDepth 100000 in
theorem gampref05_Same.calls (k : Nat) (A0 : Option Addr) (c0 : Nat) (l0 : List Int) (A1 : Option Addr) (c1 : Nat) (l1 : List Int) (r : Bool) (w : World) (hr0 : Kd.C (Kd.int .i64) w A0 l0.length l0) (hc0 : l0.length ≤ c0) (hr1 : Kd.C (Kd.int .i64) w A1 l1.length l1) (hc1 : l1.length ≤ c1) (h : gampref05_Same.f k l0 l1 = some r) :
  Calls Try.prog 47 #[.slice A0 l0.length c0, .slice A1 l1.length c1] w fun e w' => e = .returned (.bool r) ∧ Drawn0 w w' := by
 have HR0 := Aside0.mk hr0
 have HC0 := Aside0.mk hc0
 clear hr0 hc0
 have HR1 := Aside0.mk hr1
 have HC1 := Aside0.mk hc1
 clear hr1 hc1
 have H : (if (l0.length : Int) = (l1.length : Int) then (gampref05_Same.l0 k l0 l1 0) else (some false)) = some r := h
 clear h
 by_cases c3 : (l0.length : Int) = (l1.length : Int)
 ·rw [if_pos c3] at H
  have c3b0 : ((l0.length : Int) == (l1.length : Int)) = true := beq_iff_eq.mpr c3
  (try simp only [hl0_2] at c3b0)
  have c3b1 : ((l0.length : Int) != (l1.length : Int)) = false := bne_eq_false_iff_eq.mpr c3
  (try simp only [hl0_2] at c3b1)
  have c3b2 : (l0.length == l1.length) = true := by first | simpa using c3 | (simp at c3 ⊢; omega)
  (try simp only [hl0_2] at c3b2)
  clear c3
  have H' := Aside0.mk H
  clear H
  go_enter Try.func47, Try.ntmps47
  go_wp2
  repeat (go_quiet (fail); try go_wp2)
  go_loopg [5] k (fun kq v5 w' => ∃ (x5_1 : Int), v5 = .int .i64 x5_1 ∧ Aside0 (gampref05_Same.l0 kq l0 l1 x5_1 = some r) ∧ Aside0 (kq ≤ k) ∧ Drawn0 w w')
  case atStart => exact ⟨(0), (by first | rfl | (simp; done) | (simp [*]; done)), H', ⟨Nat.le_refl _⟩, by repeat (first | exact Drawn0.refl _ | apply Drawn0.step)⟩
  case round =>
   clear H'
   try clear c1
   try clear p2
   try clear c3
   try clear c3b0
   try clear c3b1
   try clear c3b2
   obtain ⟨x5_1, rfl, HA, HK1, ⟨m1, rfl⟩⟩ := hrel
   cases gk with
   | zero => exact absurd HA.out (by simp [gampref05_Same.l0])
   | succ k1 =>
    have H := HA.out
    clear HA
    simp only [gampref05_Same.l0] at H
    by_cases c4 : x5_1 < (l0.length : Int)
    ·rw [if_pos c4] at H
     have c4b0 : decide (x5_1 < (l0.length : Int)) = true := decide_eq_true c4
     (try simp only [hl0_2] at c4b0)
     clear c4
     by_cases c5 : 0 ≤ x5_1
     ·rw [if_pos c5] at H
      have c5b0 : decide (0 ≤ x5_1) = true := decide_eq_true c5
      clear c5
      by_cases c6 : x5_1 < (l1.length : Int)
      ·rw [if_pos c6] at H
       have c6b0 : decide (x5_1 < (l1.length : Int)) = true := decide_eq_true c6
       (try simp only [hl0_2] at c6b0)
       clear c6
       by_cases c7 : (rd l0 x5_1) = (rd l1 x5_1)
       ·rw [if_pos c7] at H
        have c7b0 : ((rd l0 x5_1) == (rd l1 x5_1)) = true := beq_iff_eq.mpr c7
        have c7b1 : ((rd l0 x5_1) != (rd l1 x5_1)) = false := bne_eq_false_iff_eq.mpr c7
        clear c7
        have H' := Aside0.mk H
        clear H
        have p153 : 0 ≤ (x5_1 : Int) := ofd
        have q153 : x5_1 < (l0.length : Int) := ofd
        obtain ⟨ad153, e153, hx153_0⟩ := Kd.at_int HR0.out x5_1 p153 q153
        cases e153
        replace p153 := eq_true p153
        replace q153 := eq_true q153
        have p154 : 0 ≤ (x5_1 : Int) := ofd
        have q154 : x5_1 < (l1.length : Int) := ofd
        obtain ⟨ad154, e154, hx154_0⟩ := Kd.at_int HR1.out x5_1 p154 q154
        cases e154
        replace p154 := eq_true p154
        replace q154 := eq_true q154
        go_wp2
        repeat (go_quiet (fail); try go_wp2)
        go_roundg k1
        case measure => have := HK1.out; omega
        case rel => exact ⟨(wrap64 (x5_1 + 1)), (by first | rfl | (simp; done) | (simp [*]; done)), H', ⟨by have := HK1.out; omega⟩, by repeat (first | exact Drawn0.refl _ | apply Drawn0.step)⟩
       ·rw [if_neg c7] at H
        have c7b0 : ((rd l0 x5_1) == (rd l1 x5_1)) = false := beq_eq_false_iff_ne.mpr c7
        have c7b1 : ((rd l0 x5_1) != (rd l1 x5_1)) = true := bne_iff_ne.mpr c7
        obtain rfl := Option.some.inj H
        have p153 : 0 ≤ (x5_1 : Int) := ofd
        have q153 : x5_1 < (l0.length : Int) := ofd
        obtain ⟨ad153, e153, hx153_0⟩ := Kd.at_int HR0.out x5_1 p153 q153
        cases e153
        replace p153 := eq_true p153
        replace q153 := eq_true q153
        have p154 : 0 ≤ (x5_1 : Int) := ofd
        have q154 : x5_1 < (l1.length : Int) := ofd
        obtain ⟨ad154, e154, hx154_0⟩ := Kd.at_int HR1.out x5_1 p154 q154
        cases e154
        replace p154 := eq_true p154
        replace q154 := eq_true q154
        go_wp2
        repeat (go_quiet (fail); try go_wp2)
        go_ret
        exact ⟨by first | rfl | (simp; done) | (simp [*]; done), by repeat (first | exact Drawn0.refl _ | apply Drawn0.step)⟩
      ·rw [if_neg c6] at H
       exact absurd H (by simp)
     ·rw [if_neg c5] at H
      exact absurd H (by simp)
    ·rw [if_neg c4] at H
     have c4b0 : decide (x5_1 < (l0.length : Int)) = false := decide_eq_false c4
     (try simp only [hl0_2] at c4b0)
     clear c4
     obtain rfl := Option.some.inj H
     go_wp2
     repeat (go_quiet (fail); try go_wp2)
     go_ret
     exact ⟨by first | rfl | (simp; done) | (simp [*]; done), by repeat (first | exact Drawn0.refl _ | apply Drawn0.step)⟩
 ·rw [if_neg c3] at H
  have c3b0 : ((l0.length : Int) == (l1.length : Int)) = false := beq_eq_false_iff_ne.mpr c3
  (try simp only [hl0_2] at c3b0)
  have c3b1 : ((l0.length : Int) != (l1.length : Int)) = true := bne_iff_ne.mpr c3
  (try simp only [hl0_2] at c3b1)
  have c3b2 : (l0.length == l1.length) = false := by first | simpa using c3 | (simp at c3 ⊢; omega)
  (try simp only [hl0_2] at c3b2)
  obtain rfl := Option.some.inj H
  go_enter Try.func47, Try.ntmps47
  go_wp2
  repeat (go_quiet (fail); try go_wp2)
  go_ret
  exact ⟨by first | rfl | (simp; done) | (simp [*]; done), by repeat (first | exact Drawn0.refl _ | apply Drawn0.step)⟩
end Go.Proofs.Ytdldfdcedjmneaa.Pb

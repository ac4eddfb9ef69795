/- The declarations of Lxx30 that the claim Qe needs. -/
import Derived.Test.YtdldfdcedjmneaaQeTkP
import Derived.Test.YtdldfdcedjmneaaQeLxx5
namespace Go.Proofs.Ytdldfdcedjmneaa.Lx
open Go.RowKit Go.Proofs.Ytdldfdcedjmneaa.Own Go.Proofs.YtdldfdcedjmneaaW.PrintWords Go.Proofs.YtdldfdcedjmneaaW.PrintLast Go.Proofs.YtdldfdcedjmneaaW.PrintMore
attribute [local go_sem] max2_int min2_int max_two min_two max_three min_three max_four min_four
set_option linter.unusedVariables false
set_option linter.unusedSimpArgs false
def gampref05_Right.T8 : Bool × List (List Nat × List Nat) := (true, [([], []), ([], []), ([0, 1], [0, 1]), ([2], [2]), ([], []), ([], []), ([5], [5]), ([4, 6], [4, 6]), ([7], [7]), ([3, 8], [3, 8]), ([9, 9, 0, 1, 2, 3, 4, 5, 6, 7, 8, 9], [9])])
def gampref05_Right.B8 : List Nat := [0, 0, 3, 7, 0, 0, 32, 112, 240, 511, 1023]
theorem gampref05_Right.tab8 : rtab .any (opsOf Try.f55 8) = gampref05_Right.T8 := by kernel_rfl
theorem gampref05_Right.bits8 : waitsOk gampref05_Right.T8.2 gampref05_Right.B8 = true := by kernel_rfl
def gampref05_Right.T10 : Bool × List (List Nat × List Nat) := (true, [([], []), ([], []), ([0, 1], [0, 1]), ([2], [2]), ([], []), ([], []), ([5], [5]), ([4, 6], [4, 6]), ([7], [7]), ([3, 8], [3, 8]), ([9, 9, 0, 1, 2, 3, 4, 5, 6, 7, 8, 9], [9])])
def gampref05_Right.B10 : List Nat := [0, 0, 3, 7, 0, 0, 32, 112, 240, 511, 1023]
theorem gampref05_Right.tab10 : rtab .any (opsOf Try.f55 10) = gampref05_Right.T10 := by kernel_rfl
theorem gampref05_Right.bits10 : waitsOk gampref05_Right.T10.2 gampref05_Right.B10 = true := by kernel_rfl
def gampref05_Right.T12 : Bool × List (List Nat × List Nat) := (true, [([], []), ([], []), ([], []), ([], []), ([3], [3]), ([], []), ([], []), ([6], [6]), ([5, 7], [5, 7]), ([8], [8]), ([], []), ([], []), ([10, 11], [10, 11]), ([12], [12]), ([0, 1, 0, 1, 5, 6, 7, 8, 9, 13], [0, 1]), ([14, 9, 0, 1, 5, 6, 7, 8, 9, 13], [9, 14]), ([2, 4, 0, 1, 2, 3, 4, 5, 6, 7, 8, 9, 10, 11, 12, 13, 14, 15], [2, 4]), ([16, 13, 15, 0, 1, 2, 3, 4, 5, 6, 7, 8, 9, 10, 11, 12, 13, 14, 15], [13, 16])])
def gampref05_Right.B12 : List Nat := [0, 0, 0, 0, 8, 0, 0, 64, 224, 480, 0, 0, 3072, 7168, 16355, 32739, 65535, 131071]
theorem gampref05_Right.tab12 : rtab .any (opsOf Try.f55 12) = gampref05_Right.T12 := by kernel_rfl
theorem gampref05_Right.bits12 : waitsOk gampref05_Right.T12.2 gampref05_Right.B12 = true := by kernel_rfl
def gampref05_Right.T20 : Bool × List (List Nat × List Nat) := (true, [([], []), ([], []), ([0, 1], [0, 1]), ([2], [2]), ([], []), ([4], [4]), ([3, 5, 5], [3, 5]), ([6], [6])])
def gampref05_Right.B20 : List Nat := [0, 0, 3, 7, 0, 16, 63, 127]
theorem gampref05_Right.tab20 : rtab .any (opsOf Try.f55 20) = gampref05_Right.T20 := by kernel_rfl
theorem gampref05_Right.bits20 : waitsOk gampref05_Right.T20.2 gampref05_Right.B20 = true := by kernel_rfl
def gampref05_Right.T21 : Bool × List (List Nat × List Nat) := (true, [([], []), ([0], [0]), ([], []), ([], []), ([2, 3], [2, 3]), ([4], [4]), ([5], [5]), ([1, 6], [1, 6]), ([0, 1, 2, 3, 4, 5, 6, 7], []), ([8, 7, 7, 0, 1, 2, 3, 4, 5, 6, 7], [7, 8])])
def gampref05_Right.B21 : List Nat := [0, 1, 0, 0, 12, 28, 60, 127, 255, 511]
theorem gampref05_Right.tab21 : rtab .any (opsOf Try.f55 21) = gampref05_Right.T21 := by kernel_rfl
theorem gampref05_Right.bits21 : waitsOk gampref05_Right.T21.2 gampref05_Right.B21 = true := by kernel_rfl
set_option maxHeartbeats 8000000 in
set_option maxRecDepth 100000 in
theorem gampref05_Right.calls (k : Nat) (a0 : Int) (a1 : Int) (P2_ : Nat → Prop) (A2 : Option Addr) (c2 : Nat) (l2 : List (List Int)) (r1 : Int) (r2 : List (List Int)) (w : World) (hs2 : Kd.V (Kd.slice 3 (Kd.int .i64)) 22 w w.heap.size (fun k_ => P2_ k_) (.slice A2 l2.length c2) l2) (h : gampref05_Right.f k a0 a1 l2 = some (r1, r2)) :
  Calls Try.prog 55 #[.int .i64 a0, .int .i64 a1, .slice A2 l2.length c2] w fun e w' => ∃ v1_ : Value, e = .returned (.agg #[.int .i64 r1, v1_]) ∧ Kd.N (Kd.slice 3 (Kd.int .i64)) 22 w' w.heap.size (fun k_ => (P2_ k_ ∨ w.heap.size ≤ k_)) v1_ r2 ∧ Below w.heap.size w w' := by
 have hu26 := Try.underlying26
 have HO2 := Aside0.mk (show Kd.V (Kd.slice 3 (Kd.int .i64)) 22 w w.heap.size (fun k_ => (P2_ k_ ∨ w.heap.size ≤ k_)) (.slice A2 l2.length c2) l2 from Kd.V_mono hs2 (fun k_ hk => .inl hk))
 have HB := Aside0.mk (Below.refl w.heap.size w)
 have H : ((some (([] : List (List Int)) : List (List Int))).bind fun y200 => (if y200.length + l2.length < 5864062014805 then (gampref05_Right.l0 k a0 a1 (y200 ++ l2) true) else (none))) = some (r1, r2) := h
 clear h
 obtain ⟨y200, hy200⟩ : ∃ y_ : List (List Int), y_ = (([] : List (List Int))) := ⟨_, rfl⟩
 replace H : (if y200.length + l2.length < 5864062014805 then (gampref05_Right.l0 k a0 a1 (y200 ++ l2) true) else (none)) = some (r1, r2) := by first | (rw [hy200]; with_reducible exact H) | (have H2_ := (Option.bind_some _ _).symm.trans H; rw [hy200]; with_reducible exact H2_) | (have H2_ := (Option.bind_some _ _).symm.trans H; with_reducible exact H2_) | with_reducible exact H | (rw [hy200]; exact H) | exact H
 have Ny200 := Aside0.mk hy200
 clear hy200
 by_cases c4 : y200.length + l2.length < 5864062014805
 ·rw [if_pos c4] at H
  have LMc4 := Aside0.mk c4
  clear c4
  obtain ⟨y203, hy203⟩ : ∃ y_ : List (List Int), y_ = (y200 ++ l2) := ⟨_, rfl⟩
  replace H : (gampref05_Right.l0 k a0 a1 y203 true) = some (r1, r2) := by first | (rw [hy203]; with_reducible exact H) | (have H2_ := (Option.bind_some _ _).symm.trans H; rw [hy203]; with_reducible exact H2_) | (have H2_ := (Option.bind_some _ _).symm.trans H; with_reducible exact H2_) | with_reducible exact H | (rw [hy203]; exact H) | exact H
  have Ny203 := Aside0.mk hy203
  clear hy203
  have H' := Aside0.mk H
  clear H
  go_enter Try.func55, Try.ntmps55
  go_wp2_with (first | ((with_reducible refine gate_dst (N := 6) rfl ?_); refine box_event ?hg (N := 6) ?hd (cs := #[.int .i64 0, .slice none 0 0]) (t := 26) ?hr ?_; (case hd => rfl); (case hg => rfl); (case hr => first | (go_simp; done) | (go_simp; rfl)); intro gb199 hg w5 hbox hb; have n0_ := Aside0.mk (Kd.V_below (Kd.V_elderB (vl HO2) gb199 (Nat.le_of_eq hg.symm)) hb); have n1_ := Aside0.mk (below_step (bl HB) hb); have n2_ := Aside0.mk (hbox); have n3_ := Aside0.mk ((by rw [hg]; exact (below_size (bl HB)) : w.heap.size ≤ gb199)); have n4_ := Aside0.mk ((by rw [hg]; exact (below_size (bl HB)) : w.heap.size ≤ gb199)); clear HO2; clear HB; have HO2 := n0_; have HB := n1_; have BK199 := n2_; have GW199 := n3_; have GE199 := n4_; clear n0_ n1_ n2_ n3_ n4_; clear hb hbox hg) | ((with_reducible refine gate_dst (N := 14) rfl ?_); refine Kd.N_lit (Kd.slice 3 (Kd.int .i64)) _ 22 ?hg (N' := 14) ?hd (xs := ([] : List (List Int))) (inner := []) (ok := (fun k_ => (P2_ k_ ∨ w.heap.size ≤ k_) ∧ k_ ≠ gb199)) (okp := (fun k_ => (P2_ k_ ∨ w.heap.size ≤ k_) ∧ k_ ≠ gb199)) ?hr ?hp (fun _ hk => hk) ((show ∀ k_, w5.heap.size ≤ k_ → (fun k_ => (P2_ k_ ∨ w.heap.size ≤ k_) ∧ k_ ≠ gb199) k_ from fun k_ hk => ⟨(.inr (Nat.le_trans (below_size (bl HB)) hk)), Kd.freshB (g := gb199) (o := .cells #[.int .i64 0, .slice none 0 0] 26 (0, 0)) (bk BK199) k_ hk⟩) _ (Nat.le_refl _)) (Below.refl _ _) (Nat.le_refl _) (by simp) ?_; (case hd => rfl); (case hg => rfl); (case hr => first | (go_simp; done) | (go_simp; rfl)); (case hp => exact (Reps.none _ _)); intro v201 w6 ho7 hb hg_ hnew_; clear hg_ hnew_; (first | rw [← Ny200.out] at ho7 | (simp only [Int.reduceToNat] at ho7; rw [← Ny200.out] at ho7)); have n0_ := Aside0.mk (Kd.V_elder' (vl HO2) (Kd.N_base ho7) hb); have n1_ := Aside0.mk (Kd.N_lower ho7 (below_size (bl HB))); have n2_ := Aside0.mk (blk_below (g := gb199) (o := .cells #[.int .i64 0, .slice none 0 0] 26 (0, 0)) (bk BK199) hb); have n3_ := Aside0.mk (below_step (bl HB) hb); clear HO2; clear BK199; clear HB; have HO2 := n0_; have HO202 := n1_; have BK199 := n2_; have HB := n3_; clear n0_ n1_ n2_ n3_; clear hb ho7) | ((with_reducible refine gate_builtin (b := .append) (xs := #[.tmp 14, .tmp 15]) rfl ?_); at_builtin; refine Kd.N_append_rows (Kd.slice 3 (Kd.int .i64)) (w0 := w) w.heap.size rfl (.tmp 14) (.tmp 15) 24 22 (.slice none 0 0) 24 rfl Try.underlying24 info22 rfl (by decide) (by omega) v201 y200 l2 _ _ _ (fun k_ => (P2_ k_ ∨ w.heap.size ≤ k_) ∧ k_ ≠ gb199) (fun k_ => ((fun k_ => (P2_ k_ ∨ w.heap.size ≤ k_) ∧ k_ ≠ gb199)) k_ ∧ some k_ ≠ (v201 : Value).ownBlock) rfl rfl ?aO ?aR (fun _ hk => hk) ?aF ?aB ?aS ?aL ?_; (case aR => exact (by skip; exact Kd.V_F (Kd.V_mono (ok' := (fun k_ => ((fun k_ => (P2_ k_ ∨ w.heap.size ≤ k_) ∧ k_ ≠ gb199)) k_ ∧ some k_ ≠ (v201 : Value).ownBlock)) (HO2.out) (fun k_ hk => ⟨⟨hk.1.1, hk.1.2⟩, hk.2⟩)))); (case aB => exact (bl HB)); (case aF => exact (fun k_ hk => ⟨(.inr (Nat.le_trans (below_size (bl HB)) hk)), Kd.freshB (g := gb199) (o := .cells #[.int .i64 0, .slice none 0 0] 26 (0, 0)) (bk BK199) k_ hk⟩)); (case aO => exact (nl HO202)); (case aS => exact (below_size (bl HB))); (case aL => have := LMc4.out; omega); intro v204 w8 ho hb hg hat; rw [← Ny203.out] at ho; have n0_ := Aside0.mk (Kd.V_afterv (ok := (fun k_ => (P2_ k_ ∨ w.heap.size ≤ k_) ∧ k_ ≠ gb199)) (vl HO2) hg hat); have n1_ := Aside0.mk (blk_grown (g := gb199) (o := .cells #[.int .i64 0, .slice none 0 0] 26 (0, 0)) (bk BK199) hg (Kd.N_ne HO202.out BK199.out (by decide))); have n2_ := Aside0.mk (hb); have n3_ := Aside0.mk (ho); clear HO2; clear BK199; clear HB; clear HO202; have HO2 := n0_; have BK199 := n1_; have HB := n2_; have HO205 := n3_; clear n0_ n1_ n2_ n3_; clear ho hb hg hat))
  go_loopg [8] k (fun kq v8 w' => ∃ (x7_1 : List (List Int)) (x8_1 : Bool), v8 = .bool x8_1 ∧ Aside0 (gampref05_Right.l0 kq a0 a1 x7_1 x8_1 = some (r1, r2)) ∧ Aside0 (kq ≤ k) ∧ Aside0 (Kd.N (Kd.slice 3 (Kd.int .i64)) 22 w' w.heap.size (fun k_ => (P2_ k_ ∨ w.heap.size ≤ k_) ∧ k_ ≠ gb199) v204 x7_1) ∧ Aside0 (w'.heap[gb199]? = some (.cells #[.int .i64 0, (.slice none 0 0)] 26 (0, 0))) ∧ Aside0 (Below w.heap.size w w'))
  case atStart => exact ⟨(y203), (true), (by first | rfl | (simp; done) | (simp [*]; done)), H', ⟨Nat.le_refl _⟩, ⟨nl HO205⟩, ⟨bk BK199⟩, ⟨bl HB⟩⟩
  case round =>
   clear H'
   try clear c2
   try clear p2
   try clear c4
   try clear c5
   obtain ⟨x7_1, x8_1, rfl, HA, HK1, HO_7, BK199, HB⟩ := hrel
   cases gk with
   | zero => exact absurd HA.out (by simp [gampref05_Right.l0])
   | succ k1 =>
    have H := HA.out
    clear HA
    simp only [gampref05_Right.l0] at H
    by_cases c9 : x8_1 = true
    ·subst c9
     have H1 : (gampref05_Right.l1 k1 a0 a1 x7_1 false 0) = some (r1, r2) := by rw [if_pos rfl] at H; exact H
     clear H
     have H := H1
     clear H1
     have H' := Aside0.mk H
     clear H
     go_wp2
     go_loopg [8, 9] k1 (fun kq v8 v9 w' => ∃ (x7_2 : List (List Int)) (x8_2 : Bool) (x9_2 : Int), v8 = .bool x8_2 ∧ v9 = .int .i64 x9_2 ∧ Aside0 (gampref05_Right.l1 kq a0 a1 x7_2 x8_2 x9_2 = some (r1, r2)) ∧ Aside0 (kq ≤ k1) ∧ Aside0 (Kd.N (Kd.slice 3 (Kd.int .i64)) 22 w' w.heap.size (fun k_ => (P2_ k_ ∨ w.heap.size ≤ k_) ∧ k_ ≠ gb199) v204 x7_2) ∧ Aside0 (w'.heap[gb199]? = some (.cells #[.int .i64 0, (.slice none 0 0)] 26 (0, 0))) ∧ Aside0 (Below w.heap.size w w'))
     case atStart => exact ⟨(x7_1), (false), (0), (by first | rfl | (simp; done) | (simp [*]; done)), (by first | rfl | (simp; done) | (simp [*]; done)), H', ⟨Nat.le_refl _⟩, ⟨nl HO_7⟩, ⟨bk BK199⟩, ⟨bl HB⟩⟩
     case round =>
      clear H'
      try clear c2
      try clear p2
      try clear c4
      try clear c5
      try clear c9
      try clear p2
      obtain ⟨x7_2, x8_2, x9_2, rfl, rfl, HA, HK2, HO_7, BK199, HB⟩ := hrel
      cases gk with
      | zero => exact absurd HA.out (by simp [gampref05_Right.l1])
      | succ k2 =>
       have H := HA.out
       clear HA
       simp only [gampref05_Right.l1] at H
       by_cases c10 : (wrap64 (x9_2 + 1)) < (x7_2.length : Int)
       ·rw [if_pos c10] at H
        have c10b0 : decide ((wrap64 (x9_2 + 1)) < (x7_2.length : Int)) = true := decide_eq_true c10
        clear c10
        by_cases c11 : 0 ≤ x9_2
        ·rw [if_pos c11] at H
         have c11b0 : decide (0 ≤ x9_2) = true := decide_eq_true c11
         clear c11
         by_cases c12 : x9_2 < (x7_2.length : Int)
         ·rw [if_pos c12] at H
          have c12b0 : decide (x9_2 < (x7_2.length : Int)) = true := decide_eq_true c12
          clear c12
          obtain ⟨ji13, hji13⟩ : ∃ j_ : Int, (wrap64 (x9_2 + 1)) = j_ := ⟨_, rfl⟩
          replace H : (if 0 ≤ (ji13) then ((gampref05_wrong.f k2 (rd_L1 x7_2 x9_2) (rd_L1 x7_2 (ji13))).bind fun t208 => (gampref05_Right.l2 k2 a0 a1 x7_2 x8_2 x9_2 t208)) else (none)) = some (r1, r2) := by first | (rw [hji13] at H; exact H) | (simp only [hji13] at H ⊢; exact H)
          (try rw [hji13] at c10b0)
          have hji13w : (IntKind.i64.wrap (x9_2 + 1)) = ji13 := (i64_w _).trans hji13
          by_cases c14 : 0 ≤ (ji13)
          ·rw [if_pos c14] at H
           have c14b0 : decide (0 ≤ (ji13)) = true := decide_eq_true c14
           clear c14
           replace H := Option.bind_eq_some_iff.mp H
           obtain ⟨t208, A150, H⟩ := H
           replace H : (gampref05_Right.l2 k2 a0 a1 x7_2 x8_2 x9_2 t208) = some (r1, r2) := H
           have A15 := Aside0.mk A150
           clear A150
           have H' := Aside0.mk H
           clear H
           obtain ⟨Ao16, co16, eo16⟩ := Kd.N_slice HO_7.out
           subst eo16
           try go_wp2
           have n0_ := Aside0.mk (Kd.N_drew HO_7.out)
           have n1_ := Aside0.mk (blk_drew BK199.out)
           have n2_ := Aside0.mk (below_drew1 HB.out)
           clear HO_7 BK199 HB
           have HO_7 := n0_; have BK199 := n1_; have HB := n2_
           clear n0_ n1_ n2_
           have p206 : 0 ≤ (x9_2 : Int) := ofd
           have q206 : x9_2 < (x7_2.length : Int) := ofd
           obtain ⟨ad206, A206_0, c206_0, e206, hx206_0, hl206_0, hi206_0⟩ := at_L1 (Kd.N_reads' HO_7.out).2.2 x9_2 p206 q206
           cases e206
           obtain ⟨ce206, hce206, hMe206, hcc206⟩ := Kd.N_get HO_7.out [] x9_2 p206 (by first | exact q206 | exact ofd | (have e_ := (Kd.N_reads' HO_7.out).1; omega))
           obtain ⟨ua206_0, uc206_0, rfl, ul206_0, ge206_0⟩ := Kd.FK_slice_open hMe206
           have hv206_0 := hcc206 0 _ rfl
           rw [Nat.add_zero, show ((Kd.slice 3 (Kd.int .i64))).sz = 1 from rfl, Nat.mul_one] at hv206_0
           replace hv206_0 := Option.some.inj (hv206_0.symm.trans hx206_0)
           injection hv206_0 with hva_ hvn_ hvc_
           rw [hva_] at ge206_0
           rw [hvc_] at ul206_0
           have HL206_0 := Aside0.mk (show Kd.V (Kd.int .i64) 3 _ w.heap.size _ _ (rd_L1 x7_2 x9_2) from Kd.V_mk ul206_0 ge206_0)
           clear hva_ hvn_ hvc_ ge206_0 ul206_0 hcc206 hce206
           have HR206_0 := Aside0.mk hi206_0
           have HC206_0 := Aside0.mk hl206_0
           clear hi206_0 hl206_0
           replace p206 := eq_true p206
           replace q206 := eq_true q206
           have p207 : 0 ≤ ((ji13) : Int) := ofd
           have q207 : (ji13) < (x7_2.length : Int) := ofd
           obtain ⟨ad207, A207_0, c207_0, e207, hx207_0, hl207_0, hi207_0⟩ := at_L1 (Kd.N_reads' HO_7.out).2.2 (ji13) p207 q207
           obtain rfl : ad206 = ad207 := (by injection e207)
           obtain ⟨ce207, hce207, hMe207, hcc207⟩ := Kd.N_get HO_7.out [] (ji13) p207 (by first | exact q207 | exact ofd | (have e_ := (Kd.N_reads' HO_7.out).1; omega))
           obtain ⟨ua207_0, uc207_0, rfl, ul207_0, ge207_0⟩ := Kd.FK_slice_open hMe207
           have hv207_0 := hcc207 0 _ rfl
           rw [Nat.add_zero, show ((Kd.slice 3 (Kd.int .i64))).sz = 1 from rfl, Nat.mul_one] at hv207_0
           replace hv207_0 := Option.some.inj (hv207_0.symm.trans hx207_0)
           injection hv207_0 with hva_ hvn_ hvc_
           rw [hva_] at ge207_0
           rw [hvc_] at ul207_0
           have HL207_0 := Aside0.mk (show Kd.V (Kd.int .i64) 3 _ w.heap.size _ _ (rd_L1 x7_2 (ji13)) from Kd.V_mk ul207_0 ge207_0)
           clear hva_ hvn_ hvc_ ge207_0 ul207_0 hcc207 hce207
           have HR207_0 := Aside0.mk hi207_0
           have HC207_0 := Aside0.mk hl207_0
           clear hi207_0 hl207_0
           replace p207 := eq_true p207
           replace q207 := eq_true q207
           refine start_ (n := 11) (S := fun w' => w'.cell? (ad206.add (x9_2).toNat) = some (.slice A206_0 (rd_L1 x7_2 x9_2).length c206_0) ∧ w'.cell? (ad206.add ((ji13)).toNat) = some (.slice A207_0 (rd_L1 x7_2 (ji13)).length c207_0)) (ds := []) #[false, false, false, false, false, false, false, false, false, false, false] (by kernel_rfl) rfl rfl ⟨hx206_0, hx207_0⟩ (fun hHeld => ?_); refine with_tabW gampref05_Right.tab8 gampref05_Right.bits8 (fun HT_ HW_ => ?_)
           generalize wr.drew = w17 at HO_7 BK199 HB HL206_0 HL207_0 HR206_0 HR207_0 hx206_0 hx207_0 hHeld ⊢
           refine pr 0 25 HT_ ?_
           refine pr 1 26 HT_ ?_
           refine pr 2 27 HT_ ?_
           refine pr 4 29 HT_ ?_
           refine pr 5 30 HT_ ?_
           refine pr 6 31 HT_ ?_
           refine pr 7 32 HT_ ?_
           refine tr 3 28 HT_ HW_ hHeld ?_
           refine tr 8 33 HT_ HW_ hHeld ?_
           refine on 9 (some 34) HT_ (fun K hK => ?_)
           refine goes_ Try.func62 (by kernel_rfl) rfl #[.slice A206_0 (rd_L1 x7_2 x9_2).length c206_0, .slice A207_0 (rd_L1 x7_2 (ji13)).length c207_0] (by rfl) rfl rfl (by (try simp only [List.map_toArray, List.map_cons, List.map_nil]); first | done | (simp only [hji13]; rfl) | rfl | (simp only [List.length_drop, List.length_take]; rfl)) ?_
           with_reducible refine (gampref05_wrong.calls k2 _ _ (rd_L1 x7_2 x9_2) _ _ (rd_L1 x7_2 (ji13)) t208 _ ?side1 ?side2 ?side3 ?side4 A15.out).mono ?_
           (case side1 => exact cl (HR206_0.out))
           (case side2 => exact HC206_0.out)
           (case side3 => exact cl (HR207_0.out))
           (case side4 => exact HC207_0.out)
           rintro e w' ⟨rfl, ⟨nd, rfl⟩⟩
           refine ⟨_, rfl, ?_⟩
           refine hK.out _ _ ⟨hHeld.1, hHeld.2⟩ (fun hHeld => ?_)
           clear hK K
           refine nr (some 34) ?_
           refine pr 10 10 HT_ ?_
           refine dn HT_ ?_
           try go_wp2
           have q33 : 0 < x7_2.length := by have h_ : x9_2 < (x7_2.length : Int) := ofd; have h2_ : 0 ≤ x9_2 := ofd; omega
           obtain ⟨go33, co33, eo33, gb33, gl33, cl33, HG33⟩ := Kd.N_form HO_7.out q33
           (first | cases eo33 | (injection eo33 with ea_ en_ ec_; (first | subst ea_ | (injection ea_ with ea_; subst ea_)); subst ec_; clear en_))
           have GB33 := Aside0.mk gb33
           clear gb33 gl33 HG33 q33
           (try simp only [add_plain])
           go_loopg [8, 10] k2 (fun kq v8 v10 w' => ∃ (x7_3 : List (List Int)) (x8_3 : Bool) (x10_3 : Int), v8 = .bool x8_3 ∧ v10 = .int .i64 x10_3 ∧ Aside0 (gampref05_Right.l2 kq a0 a1 x7_3 x8_3 x9_2 x10_3 = some (r1, r2)) ∧ Aside0 (kq ≤ k2) ∧ Aside0 (Kd.N (Kd.slice 3 (Kd.int .i64)) 22 w' w.heap.size (fun k_ => (P2_ k_ ∨ w.heap.size ≤ k_) ∧ k_ ≠ gb199) (.slice (some (⟨go33, 0, none⟩ : Addr)) x7_2.length co16) x7_3) ∧ Aside0 (w'.heap[gb199]? = some (.cells #[.int .i64 0, (.slice none 0 0)] 26 (0, 0))) ∧ Aside0 (Below w.heap.size w w'))
           case atStart => exact ⟨(x7_2), (x8_2), (t208), (by first | rfl | (simp; done) | (simp [*]; done)), (by first | rfl | (simp; done) | (simp [*]; done)), H', ⟨Nat.le_refl _⟩, ⟨nl HO_7⟩, ⟨bk BK199⟩, ⟨bl HB⟩⟩
           case round =>
            clear H'
            try clear c1
            try clear c2
            try clear p2
            try clear q2
            try clear hx2
            try clear c4
            try clear c5
            try clear c6
            try clear p6
            try clear c9
            try clear c10
            try clear c10b0
            try clear c11
            try clear c11b0
            try clear c12
            try clear c12b0
            try clear c14
            try clear c14b0
            try clear hx206_0
            try clear hx207_0
            try clear p2
            try clear p206
            try clear p207
            try clear q206
            try clear q207
            obtain ⟨x7_3, x8_3, x10_3, rfl, rfl, HA, HK3, HO_7, BK199, HB⟩ := hrel
            have hl7_3 := (Kd.N_reads' HO_7.out).1
            rw [hl7_3] at HO_7
            (try simp only [hl7_3])
            (try simp only [hl7_3] at BK199)
            cases gk with
            | zero => exact absurd HA.out (by simp [gampref05_Right.l2])
            | succ k3 =>
             have H := HA.out
             clear HA
             simp only [gampref05_Right.l2] at H
             by_cases c18 : x10_3 ≥ 0
             ·rw [if_pos c18] at H
              have c18b0 : decide (0 ≤ x10_3) = true := decide_eq_true c18
              clear c18
              obtain ⟨y209, hy209⟩ : ∃ y_ : List Int, y_ = (([] : List Int)) := ⟨_, rfl⟩
              replace H : (if 0 ≤ (wrap64 (x9_2 + 1)) then (if (wrap64 (x9_2 + 1)) < (x7_3.length : Int) then (if y209.length + (rd_L1 x7_3 (wrap64 (x9_2 + 1))).length < 17592186044416 then ((some (y209 ++ (rd_L1 x7_3 (wrap64 (x9_2 + 1))) : List Int)).bind fun y213 => (if 0 ≤ (wrap64 (x10_3 + 1)) then (if (wrap64 (x10_3 + 1)) < (y213.length : Int) then (if 0 ≤ x10_3 then (if x10_3 < (y213.length : Int) then (if 0 ≤ x9_2 then (if x9_2 < (x7_3.length : Int) then ((gampref05_Then.f k3 (rd_L1 x7_3 x9_2) x10_3).bind fun t221 => ((some ((x7_3.set (x9_2 : Int).toNat t221).set ((wrap64 (x9_2 + 1)) : Int).toNat ((y213.set (x10_3 : Int).toNat (rd y213 (wrap64 (x10_3 + 1)))).set ((wrap64 (x10_3 + 1)) : Int).toNat (rd y213 x10_3)) : List (List Int))).bind fun y225 => ((gampref05_wrong.f k3 (rd_L1 y225 x9_2) (rd_L1 y225 (wrap64 (x9_2 + 1)))).bind fun t228 => (gampref05_Right.l2 k3 a0 a1 y225 true x9_2 t228)))) else (none)) else (none)) else (none)) else (none)) else (none)) else (none))) else (none)) else (none)) else (none)) = some (r1, r2) := by first | (rw [hy209]; with_reducible exact H) | (have H2_ := (Option.bind_some _ _).symm.trans H; rw [hy209]; with_reducible exact H2_) | (have H2_ := (Option.bind_some _ _).symm.trans H; with_reducible exact H2_) | with_reducible exact H | (rw [hy209]; exact H) | exact H
              have Ny209 := Aside0.mk hy209
              clear hy209
              obtain ⟨ji19, hji19⟩ : ∃ j_ : Int, (wrap64 (x9_2 + 1)) = j_ := ⟨_, rfl⟩
              replace H : (if 0 ≤ (ji19) then (if (ji19) < (x7_3.length : Int) then (if y209.length + (rd_L1 x7_3 (ji19)).length < 17592186044416 then ((some (y209 ++ (rd_L1 x7_3 (ji19)) : List Int)).bind fun y213 => (if 0 ≤ (wrap64 (x10_3 + 1)) then (if (wrap64 (x10_3 + 1)) < (y213.length : Int) then (if 0 ≤ x10_3 then (if x10_3 < (y213.length : Int) then (if 0 ≤ x9_2 then (if x9_2 < (x7_3.length : Int) then ((gampref05_Then.f k3 (rd_L1 x7_3 x9_2) x10_3).bind fun t221 => ((some ((x7_3.set (x9_2 : Int).toNat t221).set ((ji19) : Int).toNat ((y213.set (x10_3 : Int).toNat (rd y213 (wrap64 (x10_3 + 1)))).set ((wrap64 (x10_3 + 1)) : Int).toNat (rd y213 x10_3)) : List (List Int))).bind fun y225 => ((gampref05_wrong.f k3 (rd_L1 y225 x9_2) (rd_L1 y225 (ji19))).bind fun t228 => (gampref05_Right.l2 k3 a0 a1 y225 true x9_2 t228)))) else (none)) else (none)) else (none)) else (none)) else (none)) else (none))) else (none)) else (none)) else (none)) = some (r1, r2) := by first | (rw [hji19] at H; exact H) | (simp only [hji19] at H ⊢; exact H)
              (try rw [hji19] at c10b0)
              have hji19w : (IntKind.i64.wrap (x9_2 + 1)) = ji19 := (i64_w _).trans hji19
              obtain rfl : ji19 = ji13 := hji19.symm.trans hji13
              by_cases c20 : 0 ≤ (ji19)
              ·rw [if_pos c20] at H
               have c20b0 : decide (0 ≤ (ji19)) = true := decide_eq_true c20
               clear c20
               by_cases c21 : (ji19) < (x7_3.length : Int)
               ·rw [if_pos c21] at H
                have c21b0 : decide ((ji19) < (x7_3.length : Int)) = true := decide_eq_true c21
                clear c21
                by_cases c22 : y209.length + (rd_L1 x7_3 (ji19)).length < 17592186044416
                ·rw [if_pos c22] at H
                 have LMc22 := Aside0.mk c22
                 clear c22
                 obtain ⟨y213, hy213⟩ : ∃ y_ : List Int, y_ = (y209 ++ (rd_L1 x7_3 (ji19))) := ⟨_, rfl⟩
                 replace H : (if 0 ≤ (wrap64 (x10_3 + 1)) then (if (wrap64 (x10_3 + 1)) < (y213.length : Int) then (if 0 ≤ x10_3 then (if x10_3 < (y213.length : Int) then (if 0 ≤ x9_2 then (if x9_2 < (x7_3.length : Int) then ((gampref05_Then.f k3 (rd_L1 x7_3 x9_2) x10_3).bind fun t221 => ((some ((x7_3.set (x9_2 : Int).toNat t221).set ((ji19) : Int).toNat ((y213.set (x10_3 : Int).toNat (rd y213 (wrap64 (x10_3 + 1)))).set ((wrap64 (x10_3 + 1)) : Int).toNat (rd y213 x10_3)) : List (List Int))).bind fun y225 => ((gampref05_wrong.f k3 (rd_L1 y225 x9_2) (rd_L1 y225 (ji19))).bind fun t228 => (gampref05_Right.l2 k3 a0 a1 y225 true x9_2 t228)))) else (none)) else (none)) else (none)) else (none)) else (none)) else (none)) = some (r1, r2) := by first | (rw [hy213]; with_reducible exact H) | (have H2_ := (Option.bind_some _ _).symm.trans H; rw [hy213]; with_reducible exact H2_) | (have H2_ := (Option.bind_some _ _).symm.trans H; with_reducible exact H2_) | with_reducible exact H | (rw [hy213]; exact H) | exact H
                 have Ny213 := Aside0.mk hy213
                 clear hy213
                 obtain ⟨ji23, hji23⟩ : ∃ j_ : Int, (wrap64 (x10_3 + 1)) = j_ := ⟨_, rfl⟩
                 replace H : (if 0 ≤ (ji23) then (if (ji23) < (y213.length : Int) then (if 0 ≤ x10_3 then (if x10_3 < (y213.length : Int) then (if 0 ≤ x9_2 then (if x9_2 < (x7_3.length : Int) then ((gampref05_Then.f k3 (rd_L1 x7_3 x9_2) x10_3).bind fun t221 => ((some ((x7_3.set (x9_2 : Int).toNat t221).set ((ji19) : Int).toNat ((y213.set (x10_3 : Int).toNat (rd y213 (ji23))).set ((ji23) : Int).toNat (rd y213 x10_3)) : List (List Int))).bind fun y225 => ((gampref05_wrong.f k3 (rd_L1 y225 x9_2) (rd_L1 y225 (ji19))).bind fun t228 => (gampref05_Right.l2 k3 a0 a1 y225 true x9_2 t228)))) else (none)) else (none)) else (none)) else (none)) else (none)) else (none)) = some (r1, r2) := by first | (rw [hji23] at H; exact H) | (simp only [hji23] at H ⊢; exact H)
                 have hji23w : (IntKind.i64.wrap (x10_3 + 1)) = ji23 := (i64_w _).trans hji23
                 by_cases c24 : 0 ≤ (ji23)
                 ·rw [if_pos c24] at H
                  have c24b0 : decide (0 ≤ (ji23)) = true := decide_eq_true c24
                  clear c24
                  by_cases c25 : (ji23) < (y213.length : Int)
                  ·rw [if_pos c25] at H
                   have c25b0 : decide ((ji23) < (y213.length : Int)) = true := decide_eq_true c25
                   clear c25
                   by_cases c26 : 0 ≤ x10_3
                   ·rw [if_pos c26] at H
                    have c26b0 : decide (0 ≤ x10_3) = true := decide_eq_true c26
                    clear c26
                    by_cases c27 : x10_3 < (y213.length : Int)
                    ·rw [if_pos c27] at H
                     have c27b0 : decide (x10_3 < (y213.length : Int)) = true := decide_eq_true c27
                     clear c27
                     obtain ⟨y218, hy218⟩ : ∃ y_ : List Int, y_ = (y213.set (x10_3 : Int).toNat (rd y213 (ji23))) := ⟨_, rfl⟩
                     replace H : (if 0 ≤ x9_2 then (if x9_2 < (x7_3.length : Int) then ((gampref05_Then.f k3 (rd_L1 x7_3 x9_2) x10_3).bind fun t221 => ((some ((x7_3.set (x9_2 : Int).toNat t221).set ((ji19) : Int).toNat (y218.set ((ji23) : Int).toNat (rd y213 x10_3)) : List (List Int))).bind fun y225 => ((gampref05_wrong.f k3 (rd_L1 y225 x9_2) (rd_L1 y225 (ji19))).bind fun t228 => (gampref05_Right.l2 k3 a0 a1 y225 true x9_2 t228)))) else (none)) else (none)) = some (r1, r2) := by first | (rw [hy218]; with_reducible exact H) | (have H2_ := (Option.bind_some _ _).symm.trans H; rw [hy218]; with_reducible exact H2_) | (have H2_ := (Option.bind_some _ _).symm.trans H; with_reducible exact H2_) | with_reducible exact H | (rw [hy218]; exact H) | exact H
                     have Ny218 := Aside0.mk hy218
                     clear hy218
                     obtain ⟨y219, hy219⟩ : ∃ y_ : List Int, y_ = (y218.set ((ji23) : Int).toNat (rd y213 x10_3)) := ⟨_, rfl⟩
                     replace H : (if 0 ≤ x9_2 then (if x9_2 < (x7_3.length : Int) then ((gampref05_Then.f k3 (rd_L1 x7_3 x9_2) x10_3).bind fun t221 => ((some ((x7_3.set (x9_2 : Int).toNat t221).set ((ji19) : Int).toNat y219 : List (List Int))).bind fun y225 => ((gampref05_wrong.f k3 (rd_L1 y225 x9_2) (rd_L1 y225 (ji19))).bind fun t228 => (gampref05_Right.l2 k3 a0 a1 y225 true x9_2 t228)))) else (none)) else (none)) = some (r1, r2) := by first | (rw [hy219]; with_reducible exact H) | (have H2_ := (Option.bind_some _ _).symm.trans H; rw [hy219]; with_reducible exact H2_) | (have H2_ := (Option.bind_some _ _).symm.trans H; with_reducible exact H2_) | with_reducible exact H | (rw [hy219]; exact H) | exact H
                     have Ny219 := Aside0.mk hy219
                     clear hy219
                     by_cases c30 : 0 ≤ x9_2
                     ·rw [if_pos c30] at H
                      have c30b0 : decide (0 ≤ x9_2) = true := decide_eq_true c30
                      clear c30
                      by_cases c31 : x9_2 < (x7_3.length : Int)
                      ·rw [if_pos c31] at H
                       have c31b0 : decide (x9_2 < (x7_3.length : Int)) = true := decide_eq_true c31
                       clear c31
                       replace H := Option.bind_eq_some_iff.mp H
                       obtain ⟨t221, A320, H⟩ := H
                       replace H : ((some ((x7_3.set (x9_2 : Int).toNat t221).set ((ji19) : Int).toNat y219 : List (List Int))).bind fun y225 => ((gampref05_wrong.f k3 (rd_L1 y225 x9_2) (rd_L1 y225 (ji19))).bind fun t228 => (gampref05_Right.l2 k3 a0 a1 y225 true x9_2 t228))) = some (r1, r2) := H
                       have A32 := Aside0.mk A320
                       clear A320
                       obtain ⟨y224, hy224⟩ : ∃ y_ : List (List Int), y_ = (x7_3.set (x9_2 : Int).toNat t221) := ⟨_, rfl⟩
                       replace H : ((some (y224.set ((ji19) : Int).toNat y219 : List (List Int))).bind fun y225 => ((gampref05_wrong.f k3 (rd_L1 y225 x9_2) (rd_L1 y225 (ji19))).bind fun t228 => (gampref05_Right.l2 k3 a0 a1 y225 true x9_2 t228))) = some (r1, r2) := by first | (rw [hy224]; with_reducible exact H) | (have H2_ := (Option.bind_some _ _).symm.trans H; rw [hy224]; with_reducible exact H2_) | (have H2_ := (Option.bind_some _ _).symm.trans H; with_reducible exact H2_) | with_reducible exact H | (rw [hy224]; exact H) | exact H
                       have Ny224 := Aside0.mk hy224
                       clear hy224
                       obtain ⟨y225, hy225⟩ : ∃ y_ : List (List Int), y_ = (y224.set ((ji19) : Int).toNat y219) := ⟨_, rfl⟩
                       replace H : ((gampref05_wrong.f k3 (rd_L1 y225 x9_2) (rd_L1 y225 (ji19))).bind fun t228 => (gampref05_Right.l2 k3 a0 a1 y225 true x9_2 t228)) = some (r1, r2) := by first | (rw [hy225]; with_reducible exact H) | (have H2_ := (Option.bind_some _ _).symm.trans H; rw [hy225]; with_reducible exact H2_) | (have H2_ := (Option.bind_some _ _).symm.trans H; with_reducible exact H2_) | with_reducible exact H | (rw [hy225]; exact H) | exact H
                       have Ny225 := Aside0.mk hy225
                       clear hy225
                       replace H := Option.bind_eq_some_iff.mp H
                       obtain ⟨t228, A350, H⟩ := H
                       replace H : (gampref05_Right.l2 k3 a0 a1 y225 true x9_2 t228) = some (r1, r2) := H
                       have A35 := Aside0.mk A350
                       clear A350
                       have H' := Aside0.mk H
                       clear H
                       try go_wp2_with (first | ((with_reducible refine gate_dst (N := 47) rfl ?_); refine Kd.R_lit (Kd.int .i64) _ 3 ?hg (N := 47) ?hd (xs := ([] : List Int)) (inner := []) (ok := fun _ => True) (okp := fun _ => True) ?hr ?hp (fun _ hk => hk) trivial (Below.refl _ _) (Nat.le_refl _) (by simp) ?_; (case hd => rfl); (case hg => rfl); (case hr => first | (go_simp; done) | (go_simp; rfl)); (case hp => exact (Reps.none _ _)); intro v210 w36 ho37 hb hg_ hnew_; clear hg_ hnew_; (first | rw [← Ny209.out] at ho37 | (simp only [Int.reduceToNat] at ho37; rw [← Ny209.out] at ho37)); have n0_ := Aside0.mk (Kd.N_elder' (nl HO_7) (Kd.R_base ho37) hb); have n1_ := Aside0.mk (Kd.R_lower (Kd.R_newM (M := fun k_ => (w.heap.size ≤ k_)) ho37 (below_size (bl HB)) (fun k_ h_ => h_)) (below_size (bl HB))); have n2_ := Aside0.mk (blk_below (g := gb199) (o := .cells #[.int .i64 0, .slice none 0 0] 26 (0, 0)) (bk BK199) hb); have n3_ := Aside0.mk (below_step (bl HB) hb); clear HO_7; clear BK199; clear HB; have HO_7 := n0_; have HO211 := n1_; have BK199 := n2_; have HB := n3_; clear n0_ n1_ n2_ n3_; clear hb ho37; have p212 : 0 ≤ ((ji19) : Int) := ofd; have q212 : (ji19) < (x7_3.length : Int) := ofd; obtain ⟨ad212, A212_0, c212_0, e212, hx212_0, hl212_0, hi212_0⟩ := at_L1 (Kd.N_reads' HO_7.out).2.2 (ji19) p212 q212; obtain rfl : (⟨go33, 0, none⟩ : Addr) = ad212 := (by injection e212); obtain ⟨ce212, hce212, hMe212, hcc212⟩ := Kd.N_get HO_7.out [] (ji19) p212 (by first | exact q212 | exact ofd | (have e_ := (Kd.N_reads' HO_7.out).1; omega)); obtain ⟨ua212_0, uc212_0, rfl, ul212_0, ge212_0⟩ := Kd.FK_slice_open hMe212; have hv212_0 := hcc212 0 _ rfl; rw [Nat.add_zero, show ((Kd.slice 3 (Kd.int .i64))).sz = 1 from rfl, Nat.mul_one] at hv212_0; replace hv212_0 := Option.some.inj (hv212_0.symm.trans hx212_0); injection hv212_0 with hva_ hvn_ hvc_; rw [hva_] at ge212_0; rw [hvc_] at ul212_0; have HL212_0 := Aside0.mk (show Kd.V (Kd.int .i64) 3 _ w.heap.size _ _ (rd_L1 x7_3 (ji19)) from Kd.V_mk ul212_0 ge212_0); clear hva_ hvn_ hvc_ ge212_0 ul212_0; clear hcc212 hce212; have HR212_0 := Aside0.mk hi212_0; have HC212_0 := Aside0.mk hl212_0; clear hi212_0 hl212_0; replace p212 := eq_true p212; replace q212 := eq_true q212; (try simp only [add_plain] at hx212_0)) | ((with_reducible refine gate_builtin (b := .append) (xs := #[.tmp 47, .tmp 52]) rfl ?_); at_builtin; refine Kd.R_append_rows (Kd.int .i64) (w0 := w) w.heap.size rfl (.tmp 47) (.tmp 52) 22 3 (.int .i64 0) 8 rfl Try.underlying22 info3 rfl (by decide) (by omega) v210 y209 (rd_L1 x7_3 (ji19)) _ _ _ (fun k_ => (w.heap.size ≤ k_)) (fun _ => False) rfl rfl ?aO ?aR (fun _ _ h => h) (fun _ h => h.elim) ?aF ?aB ?aS ?aL ?_; (case aR => exact cl (HR212_0.out)); (case aB => exact (bl HB)); (case aF => exact (fun k_ hk => (Nat.le_trans (below_size (bl HB)) hk))); (case aO => exact (by (with_reducible repeat (first | apply Kd.R_alloc | apply Kd.R_drewN | apply Kd.R_drew)); exact Kd.R_mono HO211.out (fun _ hk => hk.1))); (case aS => exact (below_size (bl HB))); (case aL => have := LMc22.out; omega); intro v214 w38 ho hb hg hat; rw [← Ny213.out] at ho; have n0_ := Aside0.mk (Kd.N_afterv (ok := (fun k_ => (P2_ k_ ∨ w.heap.size ≤ k_) ∧ k_ ≠ gb199)) (nl HO_7) hg hat); have n1_ := Aside0.mk (blk_grown (g := gb199) (o := .cells #[.int .i64 0, .slice none 0 0] 26 (0, 0)) (bk BK199) hg (Kd.R_ne HO211.out BK199.out (by decide))); have n2_ := Aside0.mk (Kd.V_afterv (ok := (fun k_ => (P2_ k_ ∨ w.heap.size ≤ k_) ∧ some k_ ≠ (.slice (some (⟨go33, 0, none⟩ : Addr)) x7_3.length co16 : Value).ownBlock ∧ k_ ≠ gb199)) (by (with_reducible repeat (first | apply Kd.V_alloc | apply Kd.V_drewN | apply Kd.V_drew)); exact Kd.V_mono HL212_0.out (fun _ hk => ⟨⟨hk.1.1.1, ⟨hk.2, hk.1.1.2⟩⟩, hk.1.2⟩)) hg hat); have n3_ := Aside0.mk (hb); have n4_ := Aside0.mk (ho); clear HO_7; clear BK199; clear HL212_0; clear HB; clear HO211; have HO_7 := n0_; have BK199 := n1_; have HL212_0 := n2_; have HB := n3_; have HO215 := n4_; clear n0_ n1_ n2_ n3_ n4_; clear ho hb hg hat))
                       have n0_ := Aside0.mk (Kd.N_drew HO_7.out)
                       have n1_ := Aside0.mk (Kd.V_drew HL212_0.out)
                       have n2_ := Aside0.mk (Kd.R_drew HO215.out)
                       have n3_ := Aside0.mk (blk_drew BK199.out)
                       have n4_ := Aside0.mk (below_drew1 HB.out)
                       clear HO_7 HL212_0 HO215 BK199 HB
                       have HO_7 := n0_; have HL212_0 := n1_; have HO215 := n2_; have BK199 := n3_; have HB := n4_
                       clear n0_ n1_ n2_ n3_ n4_
                       obtain ⟨Ao40, co40, eo40⟩ := Kd.R_slice HO215.out
                       (first | subst eo40 | (injection eo40 with f1_ f2_ f3_; have f4_ := f1_.symm; have f5_ := f3_.symm; clear f1_ f2_ f3_; subst f4_; subst f5_))
                       have p216 : 0 ≤ ((ji23) : Int) := ofd
                       have q216 : (ji23) < (y213.length : Int) := ofd
                       obtain ⟨ad216, e216, hx216_0⟩ := Kd.at_int (Kd.R_reads' HO215.out).2.2 (ji23) p216 q216
                       cases e216
                       replace p216 := eq_true p216
                       replace q216 := eq_true q216
                       have p217 : 0 ≤ (x10_3 : Int) := ofd
                       have q217 : x10_3 < (y213.length : Int) := ofd
                       obtain ⟨ad217, e217, hx217_0⟩ := Kd.at_int (Kd.R_reads' HO215.out).2.2 x10_3 p217 q217
                       obtain rfl : ad216 = ad217 := (by injection e217)
                       replace p217 := eq_true p217
                       replace q217 := eq_true q217
                       have p28 : 0 ≤ (x10_3 : Int) := ofd
                       have q28 : (x10_3 : Int) < ((y213.length : Int) : Int) := ofd
                       obtain ⟨go28, co28, eo28, gb28, gl28, cl28, HG28⟩ := Kd.R_form HO215.out (by omega)
                       (first | cases eo28 | (injection eo28 with ea_ en_ ec_; (first | subst ea_ | (injection ea_ with ea_; subst ea_)); subst ec_; clear en_))
                       have GB28 := Aside0.mk gb28
                       have GG28 := Aside0.mk HG28
                       clear gb28 gl28 HG28
                       (first | simp only [add_plain] at hx216_0 | skip)
                       (first | simp only [add_plain] at hx217_0 | skip)
                       obtain ⟨hx28_0, hf28_0⟩ := Kd.R_celln 0 HO215.out (x10_3 : Int) p28 q28
                       replace p28 := eq_true p28
                       replace q28 := eq_true q28
                       have HP41 := Kd.R_putn HO215.out (x10_3 : Int) (rd y213 (ji23))
                       rw [← Ny218.out] at HP41
                       have HQ41 := Aside0.mk HP41
                       clear HP41
                       have p29 : 0 ≤ ((ji23) : Int) := ofd
                       have q29 : ((ji23) : Int) < ((y213.length : Int) : Int) := ofd
                       obtain ⟨hx29_0, hf29_0⟩ := Kd.R_celln 0 HQ41.out ((ji23) : Int) p29 q29
                       replace p29 := eq_true p29
                       replace q29 := eq_true q29
                       have HP42 := Kd.R_putn HQ41.out ((ji23) : Int) (rd y213 x10_3)
                       rw [← Ny219.out] at HP42
                       have HQ42 := Aside0.mk HP42
                       clear HP42
                       refine start_ (n := 18) (S := fun w' => w'.cell? ⟨go28, ((ji23)).toNat, none⟩ = some (.int .i64 (rd y213 (ji23))) ∧ w'.cell? ⟨go28, (x10_3).toNat, none⟩ = some (.int .i64 (rd y213 x10_3))) (ds := [15, 17]) #[false, false, false, false, false, false, false, false, false, false, false, false, false, false, false, false, false, false] (by kernel_rfl) rfl rfl ⟨hx216_0, hx217_0⟩ (fun hHeld => ?_); refine with_tabW gampref05_Right.tab12 gampref05_Right.bits12 (fun HT_ HW_ => ?_)
                       generalize w38.drew = w39 at HO_7 HL212_0 HO215 BK199 HB GG28 HQ41 HQ42 hf28_0 hf29_0 hx216_0 hx217_0 hx28_0 hx29_0 hHeld ⊢
                       refine pr 0 54 HT_ ?_
                       refine pr 1 55 HT_ ?_
                       refine pr 2 56 HT_ ?_
                       refine pr 3 57 HT_ ?_
                       refine pr 4 58 HT_ ?_
                       refine pr 5 59 HT_ ?_
                       refine pr 6 60 HT_ ?_
                       refine pr 7 61 HT_ ?_
                       refine pr 8 62 HT_ ?_
                       refine pr 10 64 HT_ ?_
                       refine pr 11 65 HT_ ?_
                       refine pr 12 66 HT_ ?_
                       refine tr 9 63 HT_ HW_ hHeld ?_
                       refine tr 13 67 HT_ HW_ hHeld ?_
                       refine pr 14 68 HT_ ?_
                       refine la 15 (none) HT_ (fun K hK => ?_)
                       refine sk ?_
                       refine hK.out _ _ ?_
                       clear hK K
                       refine pr 16 69 HT_ ?_
                       refine la 17 (none) HT_ (fun K hK => ?_)
                       refine sk ?_
                       refine hK.out _ _ ?_
                       clear hK K
                       refine dn HT_ ?_
                       have n0_ : Aside0 (Kd.N (Kd.slice 3 (Kd.int .i64)) 22 ((w39.setCell ⟨go28, (x10_3 : Int).toNat, none⟩ (.int .i64 (rd y213 (ji23)))).setCell ⟨go28, ((ji23) : Int).toNat, none⟩ (.int .i64 (rd y213 x10_3))) w.heap.size (fun k_ => (P2_ k_ ∨ w.heap.size ≤ k_) ∧ some k_ ≠ (.slice (some ⟨go28, 0, none⟩) y213.length co40 : Value).ownBlock ∧ k_ ≠ gb199) (.slice (some (⟨go33, 0, none⟩ : Addr)) x7_3.length co16) x7_3) := ⟨by (with_reducible repeat (first | apply Kd.N_alloc | apply Kd.N_drewN | apply Kd.N_drew)); exact Kd.N_mono (Kd.N_far (p := ⟨go28, ((ji23) : Int).toNat, none⟩) (Kd.N_far (p := ⟨go28, (x10_3 : Int).toNat, none⟩) (Kd.N_mono HO_7.out (fun k_ hk => (⟨hk, fun e_ => hk.2 (by rw [e_]; rfl)⟩ : _ ∧ k_ ≠ go28))) (fun _ hk => hk.2) (.int .i64 (rd y213 (ji23)))) (fun _ hk => hk.2) (.int .i64 (rd y213 x10_3))) (fun _ hk => ⟨hk.1.1.1, ⟨hk.1.2, hk.1.1.2⟩⟩)⟩
                       have n1_ : Aside0 (Kd.V (Kd.int .i64) 3 ((w39.setCell ⟨go28, (x10_3 : Int).toNat, none⟩ (.int .i64 (rd y213 (ji23)))).setCell ⟨go28, ((ji23) : Int).toNat, none⟩ (.int .i64 (rd y213 x10_3))) w.heap.size (fun k_ => (P2_ k_ ∨ w.heap.size ≤ k_) ∧ some k_ ≠ (.slice (some (⟨go33, 0, none⟩ : Addr)) x7_3.length co16 : Value).ownBlock ∧ some k_ ≠ (.slice (some ⟨go28, 0, none⟩) y213.length co40 : Value).ownBlock ∧ k_ ≠ gb199) (.slice A212_0 (rd_L1 x7_3 (ji19)).length c212_0) (rd_L1 x7_3 (ji19))) := ⟨by (with_reducible repeat (first | apply Kd.V_alloc | apply Kd.V_drewN | apply Kd.V_drew)); exact Kd.V_mono (Kd.V_far (p := ⟨go28, ((ji23) : Int).toNat, none⟩) (Kd.V_far (p := ⟨go28, (x10_3 : Int).toNat, none⟩) (Kd.V_mono HL212_0.out (fun k_ hk => (⟨hk, fun e_ => hk.2 (by rw [e_]; rfl)⟩ : _ ∧ k_ ≠ go28))) (fun _ hk => hk.2) (.int .i64 (rd y213 (ji23)))) (fun _ hk => hk.2) (.int .i64 (rd y213 x10_3))) (fun _ hk => ⟨hk.1.1.1, ⟨hk.1.1.2.1, ⟨hk.1.2, hk.1.1.2.2⟩⟩⟩)⟩
                       have n2_ : Aside0 (Kd.R (Kd.int .i64) 3 ((w39.setCell ⟨go28, (x10_3 : Int).toNat, none⟩ (.int .i64 (rd y213 (ji23)))).setCell ⟨go28, ((ji23) : Int).toNat, none⟩ (.int .i64 (rd y213 x10_3))) w.heap.size (fun k_ => (w.heap.size ≤ k_)) (.slice (some ⟨go28, 0, none⟩) y213.length co40) y219) := ⟨rl HQ42⟩
                       have n3_ : Aside0 (((w39.setCell ⟨go28, (x10_3 : Int).toNat, none⟩ (.int .i64 (rd y213 (ji23)))).setCell ⟨go28, ((ji23) : Int).toNat, none⟩ (.int .i64 (rd y213 x10_3))).heap[gb199]? = some (.cells #[.int .i64 0, .slice none 0 0] 26 (0, 0))) := ⟨by (with_reducible repeat (first | refine blk_drewN ?_ _ | refine blk_drew ?_ | refine blk_alloc ?_ _)); refine blk_far ?_ (by have h_ := Kd.R_ne HO215.out BK199.out (by decide); intro e_; exact h_ (by rw [e_]; rfl)) _; (with_reducible repeat (first | refine blk_drewN ?_ _ | refine blk_drew ?_ | refine blk_alloc ?_ _)); refine blk_far ?_ (by have h_ := Kd.R_ne HO215.out BK199.out (by decide); intro e_; exact h_ (by rw [e_]; rfl)) _; (with_reducible repeat (first | refine blk_drewN ?_ _ | refine blk_drew ?_ | refine blk_alloc ?_ _)); exact BK199.out⟩
                       have n4_ : Aside0 (Below w.heap.size w ((w39.setCell ⟨go28, (x10_3 : Int).toNat, none⟩ (.int .i64 (rd y213 (ji23)))).setCell ⟨go28, ((ji23) : Int).toNat, none⟩ (.int .i64 (rd y213 x10_3)))) := ⟨bl HB⟩
                       (try clear HO_7)
                       (try clear HL212_0)
                       (try clear HO215)
                       (try clear BK199)
                       (try clear HB)
                       generalize ((w39.setCell ⟨go28, (x10_3 : Int).toNat, none⟩ (.int .i64 (rd y213 (ji23)))).setCell ⟨go28, ((ji23) : Int).toNat, none⟩ (.int .i64 (rd y213 x10_3))) = w43 at n0_ n1_ n2_ n3_ n4_ ⊢
                       have HO_7 := n0_; have HL212_0 := n1_; have HO215 := n2_; have BK199 := n3_; have HB := n4_
                       clear n0_ n1_ n2_ n3_ n4_
                       have p220 : 0 ≤ (x9_2 : Int) := ofd
                       have q220 : x9_2 < (x7_3.length : Int) := ofd
                       obtain ⟨ad220, A220_0, c220_0, e220, hx220_0, hl220_0, hi220_0⟩ := at_L1 (Kd.N_reads' HO_7.out).2.2 x9_2 p220 q220
                       obtain rfl : (⟨go33, 0, none⟩ : Addr) = ad220 := (by injection e220)
                       obtain ⟨ce220, hce220, hMe220, hcc220⟩ := Kd.N_get HO_7.out [] x9_2 p220 (by first | exact q220 | exact ofd | (have e_ := (Kd.N_reads' HO_7.out).1; omega))
                       obtain ⟨ua220_0, uc220_0, rfl, ul220_0, ge220_0⟩ := Kd.FK_slice_open hMe220
                       have hv220_0 := hcc220 0 _ rfl
                       rw [Nat.add_zero, show ((Kd.slice 3 (Kd.int .i64))).sz = 1 from rfl, Nat.mul_one] at hv220_0
                       replace hv220_0 := Option.some.inj (hv220_0.symm.trans hx220_0)
                       injection hv220_0 with hva_ hvn_ hvc_
                       rw [hva_] at ge220_0
                       rw [hvc_] at ul220_0
                       have HL220_0 := Aside0.mk (show Kd.V (Kd.int .i64) 3 _ w.heap.size _ _ (rd_L1 x7_3 x9_2) from Kd.V_mk ul220_0 ge220_0)
                       clear hva_ hvn_ hvc_ ge220_0 ul220_0 hcc220 hce220
                       have HR220_0 := Aside0.mk hi220_0
                       have HC220_0 := Aside0.mk hl220_0
                       clear hi220_0 hl220_0
                       replace p220 := eq_true p220
                       replace q220 := eq_true q220
                       (try simp only [add_plain] at hx220_0)
                       try go_wp2_with (first | ((with_reducible refine gate_callee (f := 56) rfl ?_); refine gL 80 Try.func56 #[.slice A220_0 (rd_L1 x7_3 x9_2).length c220_0, .int .i64 x10_3] ?_; (with_reducible refine (gampref05_Then.calls k3 _ _ (rd_L1 x7_3 x9_2) x10_3 t221 _ ?side1 ?side2 A32.out).mono ?_); (case side1 => exact cl (HR220_0.out)); (case side2 => exact HC220_0.out); rintro e w44 ⟨v222, rfl, ho0, hb⟩; refine ⟨_, rfl, ?_⟩; have n0_ := Aside0.mk (Kd.N_elder' (nl HO_7) (Kd.R_base ho0) hb); have n1_ := Aside0.mk (Kd.V_elder' (vl HL212_0) (Kd.R_base ho0) hb); have n2_ := Aside0.mk (Kd.R_elder' (rl HO215) (Kd.R_base ho0) hb); have n3_ := Aside0.mk (Kd.V_elder' (vl HL220_0) (Kd.R_base ho0) hb); have n4_ := Aside0.mk (Kd.R_lower (Kd.R_new' (Kd.R_newM (M := fun k_ => (w.heap.size ≤ k_)) ho0 (below_size (bl HB)) (fun k_ h_ => h_)) (Kd.R_lt (rl HO215))) (below_size (bl HB))); have n5_ := Aside0.mk (blk_below (g := gb199) (o := .cells #[.int .i64 0, .slice none 0 0] 26 (0, 0)) (bk BK199) hb); have n6_ := Aside0.mk (Kd.C_below (cl HR220_0.out) hb); have n7_ := Aside0.mk (below_step (bl HB) hb); clear HO_7; clear HL212_0; clear HO215; clear HL220_0; clear BK199; clear HR220_0; clear HB; have HO_7 := n0_; have HL212_0 := n1_; have HO215 := n2_; have HL220_0 := n3_; have HO223 := n4_; have BK199 := n5_; have HR220_0 := n6_; have HB := n7_; clear n0_ n1_ n2_ n3_ n4_ n5_ n6_ n7_; (try clear hb); (try clear hb2); (try clear hk); (try clear hi); (try clear ho0); obtain ⟨A222, c222, rfl⟩ := Kd.R_slice HO223.out; have p33 : 0 ≤ (x9_2 : Int) := ofd; have q33 : (x9_2 : Int) < ((x7_3.length : Int) : Int) := ofd; (first | simp only [add_plain] at hx206_0 | skip); (first | simp only [add_plain] at hx207_0 | skip); (first | simp only [add_plain] at hx212_0 | skip); (first | simp only [add_plain] at hx220_0 | skip); obtain ⟨ce33, hcl33, hM33, hcc33, hfr33⟩ := Kd.N_elem HO_7.out [] (x9_2 : Int) p33 q33; obtain ⟨ua33_0, uc33_0, rfl, ul33_0, ge33_0⟩ := Kd.FK_slice_open hM33; have hx33_0 := hcc33 0 _ rfl; have hf33_0 := hfr33 0; (try simp only [show ((Kd.slice 3 (Kd.int .i64))).sz = 1 from rfl, Nat.mul_one, Nat.add_zero] at hx33_0); (try simp only [show ((Kd.slice 3 (Kd.int .i64))).sz = 1 from rfl, Nat.mul_one, Nat.add_zero] at hf33_0); clear hcl33 hcc33 hfr33 hM33; replace p33 := eq_true p33; replace q33 := eq_true q33; have n_ := Aside0.mk (Kd.N_mono (ok' := (fun k_ => (P2_ k_ ∨ w.heap.size ≤ k_) ∧ some k_ ≠ (.slice (some ⟨go28, 0, none⟩) y213.length co40 : Value).ownBlock ∧ some k_ ≠ (.slice A222 t221.length c222 : Value).ownBlock ∧ k_ ≠ gb199)) HO_7.out (fun k_ hk => ⟨hk.1.1, ⟨hk.1.2.1, ⟨hk.2, hk.1.2.2⟩⟩⟩)); clear HO_7; have HO_7 := n_; clear n_; have HX45 := Aside0.mk (show Kd.N (Kd.slice 3 (Kd.int .i64)) 22 w44 w.heap.size (fun k_ => (P2_ k_ ∨ w.heap.size ≤ k_) ∧ some k_ ≠ (.slice (some ⟨go28, 0, none⟩) y213.length co40 : Value).ownBlock ∧ k_ ≠ gb199) (.slice (some ⟨go33, 0, none⟩) x7_3.length co16) x7_3 from (by (with_reducible repeat (first | apply Kd.N_alloc | apply Kd.N_drewN | apply Kd.N_drew)); exact Kd.N_mono HO_7.out (fun _ hk => ⟨hk.1, ⟨hk.2.1, hk.2.2.2⟩⟩))); obtain ⟨ce45, hcl45, hM45, hcc45, hfr45⟩ := Kd.N_elem HX45.out [] (x9_2 : Int) (ofd) (by have h_ : (x9_2 : Int) < ((x7_3.length : Int) : Int) := ofd; first | exact h_ | (have e_ := (Kd.N_reads' HO_7.out).1; omega) | simpa using h_); obtain ⟨ua45_0, uc45_0, rfl, ul45_0, ge45_0⟩ := Kd.FK_slice_open hM45; have HP45 := Kd.N_seg HX45.out (x9_2 : Int) (ofd) (by have h_ : (x9_2 : Int) < ((x7_3.length : Int) : Int) := ofd; first | exact h_ | (have e_ := (Kd.N_reads' HO_7.out).1; omega) | simpa using h_) (seg := [.slice A222 t221.length c222]) (j := 0) hcl45 hcc45 (show 1 ≤ 1 from by decide) (x' := t221) (Kd.FK_slice_mk (Kd.R_reads' (Kd.R_mono (ok' := (fun k_ => ((fun k_ => (P2_ k_ ∨ w.heap.size ≤ k_) ∧ some k_ ≠ (.slice (some ⟨go28, 0, none⟩) y213.length co40 : Value).ownBlock ∧ k_ ≠ gb199)) k_ ∧ k_ ≠ go33)) (Kd.R_types (Kd.R_apart' (HO223.out) (Kd.N_typed HO_7.out) (by decide)) BK199.out (by decide)) (fun k_ hk => ⟨⟨(.inr (hk.1.1.1.1)), ⟨hk.1.1.2, hk.2⟩⟩, fun e_ => (hk.1.2) (by rw [e_]; rfl)⟩))).2.1 (Kd.R_F (Kd.R_mono (ok' := (fun k_ => ((fun k_ => (P2_ k_ ∨ w.heap.size ≤ k_) ∧ some k_ ≠ (.slice (some ⟨go28, 0, none⟩) y213.length co40 : Value).ownBlock ∧ k_ ≠ gb199)) k_ ∧ k_ ≠ go33)) (Kd.R_types (Kd.R_apart' (HO223.out) (Kd.N_typed HO_7.out) (by decide)) BK199.out (by decide)) (fun k_ hk => ⟨⟨(.inr (hk.1.1.1.1)), ⟨hk.1.1.2, hk.2⟩⟩, fun e_ => (hk.1.2) (by rw [e_]; rfl)⟩)))) (fun _ hk => hk); have hx45_0 := hcc45 0 _ rfl; (try simp only [show ((Kd.slice 3 (Kd.int .i64))).sz = 1 from rfl, Nat.mul_one, Nat.add_zero] at hx45_0); have hf45_0 := hfr45 0; (try simp only [show ((Kd.slice 3 (Kd.int .i64))).sz = 1 from rfl, Nat.mul_one, Nat.add_zero] at hf45_0); clear hcl45 hcc45 hfr45 hM45; (try simp only [show ((Kd.slice 3 (Kd.int .i64))).sz = 1 from rfl, Nat.mul_one, Nat.add_zero] at HP45); (try simp only [show ((Kd.slice 3 (Kd.int .i64))).sz = 1 from rfl, Nat.mul_one, Nat.add_zero] at HP45)) | ((with_reducible refine gate_store (t := 22) (p := 82) rfl ?_); refine store_event (t := 22) (p := 82) (v := ?vo_w46) (w1 := (w44.setCell ⟨go33, (x9_2 : Int).toNat, none⟩ (.slice A222 t221.length c222))) ?hg ?ho ?hn ?hr ?_; (case ho => rfl); (case hg => rfl); (case hn => rfl); (case hr => first | (go_simp; done) | (go_simp; rfl)); intro w46 hw; have hg : w44.grownBy w46 (some go33) := (by rw [hw]; exact HP45.2); have hp_ : Kd.N (Kd.slice 3 (Kd.int .i64)) 22 w46 w.heap.size (fun k_ => (P2_ k_ ∨ w.heap.size ≤ k_) ∧ some k_ ≠ (.slice (some ⟨go28, 0, none⟩) y213.length co40 : Value).ownBlock ∧ k_ ≠ gb199) (.slice (some ⟨go33, 0, none⟩) x7_3.length co16) y224 := (by rw [hw, Ny224.out]; exact HP45.1); clear HP45; have n0_ := Aside0.mk (hp_); have n1_ := Aside0.mk (blk_grown (g := gb199) (o := .cells #[.int .i64 0, .slice none 0 0] 26 (0, 0)) (bk BK199) hg (Kd.N_ne HO_7.out BK199.out (by decide))); have n2_ := Aside0.mk (Kd.V_afterv (v := (.slice (some ⟨go33, 0, none⟩) x7_3.length co16)) (v1 := (.slice (some ⟨go33, 0, none⟩) x7_3.length co16)) (ok := (fun k_ => (P2_ k_ ∨ w.heap.size ≤ k_) ∧ some k_ ≠ (.slice (some ⟨go28, 0, none⟩) y213.length co40 : Value).ownBlock ∧ some k_ ≠ (.slice A222 t221.length c222 : Value).ownBlock ∧ k_ ≠ gb199)) (by (with_reducible repeat (first | apply Kd.V_alloc | apply Kd.V_drewN | apply Kd.V_drew)); exact Kd.V_mono HL212_0.out (fun _ hk => ⟨⟨hk.1.1, ⟨hk.1.2.2.1, ⟨hk.2, hk.1.2.2.2⟩⟩⟩, hk.1.2.1⟩)) hg (.inl rfl)); have n3_ := Aside0.mk (Kd.R_over' (v := (.slice (some ⟨go33, 0, none⟩) x7_3.length co16)) (rl HO215) (Kd.N_typed HO_7.out) (by decide) hg); have n4_ := Aside0.mk (Kd.V_afterv (v := (.slice (some ⟨go33, 0, none⟩) x7_3.length co16)) (v1 := (.slice (some ⟨go33, 0, none⟩) x7_3.length co16)) (ok := (fun k_ => (P2_ k_ ∨ w.heap.size ≤ k_) ∧ some k_ ≠ (.slice (some ⟨go28, 0, none⟩) y213.length co40 : Value).ownBlock ∧ some k_ ≠ (.slice A222 t221.length c222 : Value).ownBlock ∧ k_ ≠ gb199)) (by (with_reducible repeat (first | apply Kd.V_alloc | apply Kd.V_drewN | apply Kd.V_drew)); exact Kd.V_mono HL220_0.out (fun _ hk => ⟨⟨hk.1.1.1, ⟨hk.1.1.2.1, ⟨hk.2, hk.1.1.2.2⟩⟩⟩, hk.1.2⟩)) hg (.inl rfl)); have n5_ := Aside0.mk ((by rw [hw]; exact below_set (HB.out) GB33.out : Below w.heap.size w w46)); clear HO_7; clear BK199; clear HL212_0; clear HO215; clear HL220_0; clear HB; clear HO223; have HO_7 := n0_; have BK199 := n1_; have HL212_0 := n2_; have HO215 := n3_; have HL220_0 := n4_; have HB := n5_; clear n0_ n1_ n2_ n3_ n4_ n5_; clear hg hw hp_; have p34 : 0 ≤ ((ji19) : Int) := ofd; have q34 : ((ji19) : Int) < ((x7_3.length : Int) : Int) := ofd; obtain ⟨ce34, hcl34, hM34, hcc34, hfr34⟩ := Kd.N_elem HO_7.out [] ((ji19) : Int) p34 q34; obtain ⟨ua34_0, uc34_0, rfl, ul34_0, ge34_0⟩ := Kd.FK_slice_open hM34; have hx34_0 := hcc34 0 _ rfl; have hf34_0 := hfr34 0; (try simp only [show ((Kd.slice 3 (Kd.int .i64))).sz = 1 from rfl, Nat.mul_one, Nat.add_zero] at hx34_0); (try simp only [show ((Kd.slice 3 (Kd.int .i64))).sz = 1 from rfl, Nat.mul_one, Nat.add_zero] at hf34_0); clear hcl34 hcc34 hfr34 hM34; replace p34 := eq_true p34; replace q34 := eq_true q34; have HX47 := Aside0.mk (show Kd.N (Kd.slice 3 (Kd.int .i64)) 22 w46 w.heap.size (fun k_ => (P2_ k_ ∨ w.heap.size ≤ k_) ∧ k_ ≠ gb199) (.slice (some ⟨go33, 0, none⟩) x7_3.length co16) y224 from (by (with_reducible repeat (first | apply Kd.N_alloc | apply Kd.N_drewN | apply Kd.N_drew)); exact Kd.N_mono HO_7.out (fun _ hk => ⟨hk.1, hk.2.2⟩))); obtain ⟨ce47, hcl47, hM47, hcc47, hfr47⟩ := Kd.N_elem HX47.out [] ((ji19) : Int) (ofd) (by have h_ : ((ji19) : Int) < ((x7_3.length : Int) : Int) := ofd; first | exact h_ | (have e_ := (Kd.N_reads' HO_7.out).1; omega) | simpa using h_); obtain ⟨ua47_0, uc47_0, rfl, ul47_0, ge47_0⟩ := Kd.FK_slice_open hM47; have HP47 := Kd.N_seg HX47.out ((ji19) : Int) (ofd) (by have h_ : ((ji19) : Int) < ((x7_3.length : Int) : Int) := ofd; first | exact h_ | (have e_ := (Kd.N_reads' HO_7.out).1; omega) | simpa using h_) (seg := [.slice (some ⟨go28, 0, none⟩) y213.length co40]) (j := 0) hcl47 hcc47 (show 1 ≤ 1 from by decide) (x' := y219) (by have el : y213.length = y219.length := (by rw [Ny219.out, List.length_set, Ny218.out, List.length_set]); have hr219 := HO215.out; rw [el] at hr219; show Kd.FK (Kd.slice 3 (Kd.int .i64)) w46 _ y219 [.slice (some ⟨go28, 0, none⟩) y213.length co40]; rw [el]; exact (Kd.FK_slice_mk (Kd.R_reads' (Kd.R_mono (ok' := (fun k_ => ((fun k_ => (P2_ k_ ∨ w.heap.size ≤ k_) ∧ k_ ≠ gb199)) k_ ∧ k_ ≠ go33)) (Kd.R_types (Kd.R_apart' (hr219) (Kd.N_typed HO_7.out) (by decide)) BK199.out (by decide)) (fun k_ hk => ⟨⟨(.inr (hk.1.1.1)), hk.2⟩, fun e_ => (hk.1.2) (by rw [e_]; rfl)⟩))).2.1 (Kd.R_F (Kd.R_mono (ok' := (fun k_ => ((fun k_ => (P2_ k_ ∨ w.heap.size ≤ k_) ∧ k_ ≠ gb199)) k_ ∧ k_ ≠ go33)) (Kd.R_types (Kd.R_apart' (hr219) (Kd.N_typed HO_7.out) (by decide)) BK199.out (by decide)) (fun k_ hk => ⟨⟨(.inr (hk.1.1.1)), hk.2⟩, fun e_ => (hk.1.2) (by rw [e_]; rfl)⟩))))) (fun _ hk => hk); have hx47_0 := hcc47 0 _ rfl; (try simp only [show ((Kd.slice 3 (Kd.int .i64))).sz = 1 from rfl, Nat.mul_one, Nat.add_zero] at hx47_0); have hf47_0 := hfr47 0; (try simp only [show ((Kd.slice 3 (Kd.int .i64))).sz = 1 from rfl, Nat.mul_one, Nat.add_zero] at hf47_0); clear hcl47 hcc47 hfr47 hM47; (try simp only [show ((Kd.slice 3 (Kd.int .i64))).sz = 1 from rfl, Nat.mul_one, Nat.add_zero] at HP47); (try simp only [show ((Kd.slice 3 (Kd.int .i64))).sz = 1 from rfl, Nat.mul_one, Nat.add_zero] at HP47)) | ((with_reducible refine gate_store (t := 22) (p := 83) rfl ?_); refine store_event (t := 22) (p := 83) (v := ?vo_w48) (w1 := (w46.setCell ⟨go33, ((ji19) : Int).toNat, none⟩ (.slice (some ⟨go28, 0, none⟩) y213.length co40))) ?hg ?ho ?hn ?hr ?_; (case ho => rfl); (case hg => rfl); (case hn => rfl); (case hr => first | (go_simp; done) | (go_simp; rfl)); intro w48 hw; have hg : w46.grownBy w48 (some go33) := (by rw [hw]; exact HP47.2); have hp_ : Kd.N (Kd.slice 3 (Kd.int .i64)) 22 w48 w.heap.size (fun k_ => (P2_ k_ ∨ w.heap.size ≤ k_) ∧ k_ ≠ gb199) (.slice (some ⟨go33, 0, none⟩) x7_3.length co16) y225 := (by rw [hw, Ny225.out]; exact HP47.1); clear HP47; have n0_ := Aside0.mk (hp_); have n1_ := Aside0.mk (blk_grown (g := gb199) (o := .cells #[.int .i64 0, .slice none 0 0] 26 (0, 0)) (bk BK199) hg (Kd.N_ne HO_7.out BK199.out (by decide))); have n2_ := Aside0.mk (Kd.V_afterv (v := (.slice (some ⟨go33, 0, none⟩) x7_3.length co16)) (v1 := (.slice (some ⟨go33, 0, none⟩) x7_3.length co16)) (ok := (fun k_ => (P2_ k_ ∨ w.heap.size ≤ k_) ∧ some k_ ≠ (.slice (some ⟨go28, 0, none⟩) y213.length co40 : Value).ownBlock ∧ k_ ≠ gb199)) (by (with_reducible repeat (first | apply Kd.V_alloc | apply Kd.V_drewN | apply Kd.V_drew)); exact Kd.V_mono HL212_0.out (fun _ hk => ⟨⟨hk.1.1, ⟨hk.1.2.1, hk.1.2.2.2⟩⟩, hk.2⟩)) hg (.inl rfl)); have n3_ := Aside0.mk (Kd.V_afterv (v := (.slice (some ⟨go33, 0, none⟩) x7_3.length co16)) (v1 := (.slice (some ⟨go33, 0, none⟩) x7_3.length co16)) (ok := (fun k_ => (P2_ k_ ∨ w.heap.size ≤ k_) ∧ some k_ ≠ (.slice (some ⟨go28, 0, none⟩) y213.length co40 : Value).ownBlock ∧ k_ ≠ gb199)) (by (with_reducible repeat (first | apply Kd.V_alloc | apply Kd.V_drewN | apply Kd.V_drew)); exact Kd.V_mono HL220_0.out (fun _ hk => ⟨⟨hk.1.1, ⟨hk.1.2.1, hk.1.2.2.2⟩⟩, hk.2⟩)) hg (.inl rfl)); have n4_ := Aside0.mk ((by rw [hw]; exact below_set (HB.out) GB33.out : Below w.heap.size w w48)); clear HO_7; clear BK199; clear HL212_0; clear HL220_0; clear HB; clear HO215; have HO_7 := n0_; have BK199 := n1_; have HL212_0 := n2_; have HL220_0 := n3_; have HB := n4_; clear n0_ n1_ n2_ n3_ n4_; clear hg hw hp_))
                       have n0_ := Aside0.mk (Kd.N_drew HO_7.out)
                       have n1_ := Aside0.mk (Kd.V_drew HL212_0.out)
                       have n2_ := Aside0.mk (Kd.V_drew HL220_0.out)
                       have n3_ := Aside0.mk (blk_drew BK199.out)
                       have n4_ := Aside0.mk (below_drew1 HB.out)
                       clear HO_7 HL212_0 HL220_0 BK199 HB
                       have HO_7 := n0_; have HL212_0 := n1_; have HL220_0 := n2_; have BK199 := n3_; have HB := n4_
                       clear n0_ n1_ n2_ n3_ n4_
                       have p226 : 0 ≤ (x9_2 : Int) := ofd
                       have q226 : x9_2 < (y225.length : Int) := (by have h_ : (x9_2 : Int) < ((x7_3.length : Int) : Int) := ofd; first | (have e_ := (Kd.N_reads' HO_7.out).1; omega) | simpa only [Ny224.out, Ny225.out, List.length_set] using h_)
                       have ql226 : ((x9_2 : Int) < ((x7_3.length : Int) : Int)) = True := eq_true (ofd)
                       obtain ⟨ad226, A226_0, c226_0, e226, hx226_0, hl226_0, hi226_0⟩ := at_L1 (Kd.N_reads' HO_7.out).2.2 x9_2 p226 q226
                       obtain rfl : (⟨go33, 0, none⟩ : Addr) = ad226 := (by injection e226)
                       obtain ⟨ce226, hce226, hMe226, hcc226⟩ := Kd.N_get HO_7.out [] x9_2 p226 (by first | exact q226 | exact ofd | (have e_ := (Kd.N_reads' HO_7.out).1; omega))
                       obtain ⟨ua226_0, uc226_0, rfl, ul226_0, ge226_0⟩ := Kd.FK_slice_open hMe226
                       have hv226_0 := hcc226 0 _ rfl
                       rw [Nat.add_zero, show ((Kd.slice 3 (Kd.int .i64))).sz = 1 from rfl, Nat.mul_one] at hv226_0
                       replace hv226_0 := Option.some.inj (hv226_0.symm.trans hx226_0)
                       injection hv226_0 with hva_ hvn_ hvc_
                       rw [hva_] at ge226_0
                       rw [hvc_] at ul226_0
                       have HL226_0 := Aside0.mk (show Kd.V (Kd.int .i64) 3 _ w.heap.size _ _ (rd_L1 y225 x9_2) from Kd.V_mk ul226_0 ge226_0)
                       clear hva_ hvn_ hvc_ ge226_0 ul226_0 hcc226 hce226
                       (first | simp only [add_plain] at hx226_0 | simp only [add_at] at hx226_0 | simp only [Addr.add, Nat.zero_add] at hx226_0 | skip)
                       have HR226_0 := Aside0.mk hi226_0
                       have HC226_0 := Aside0.mk hl226_0
                       clear hi226_0 hl226_0
                       replace p226 := eq_true p226
                       replace q226 := eq_true q226
                       have p227 : 0 ≤ ((ji19) : Int) := ofd
                       have q227 : (ji19) < (y225.length : Int) := (by have h_ : ((ji19) : Int) < ((x7_3.length : Int) : Int) := ofd; first | (have e_ := (Kd.N_reads' HO_7.out).1; omega) | simpa only [Ny224.out, Ny225.out, List.length_set] using h_)
                       have ql227 : (((ji19) : Int) < ((x7_3.length : Int) : Int)) = True := eq_true (ofd)
                       obtain ⟨ad227, A227_0, c227_0, e227, hx227_0, hl227_0, hi227_0⟩ := at_L1 (Kd.N_reads' HO_7.out).2.2 (ji19) p227 q227
                       obtain rfl : (⟨go33, 0, none⟩ : Addr) = ad227 := (by injection e227)
                       obtain ⟨ce227, hce227, hMe227, hcc227⟩ := Kd.N_get HO_7.out [] (ji19) p227 (by first | exact q227 | exact ofd | (have e_ := (Kd.N_reads' HO_7.out).1; omega))
                       obtain ⟨ua227_0, uc227_0, rfl, ul227_0, ge227_0⟩ := Kd.FK_slice_open hMe227
                       have hv227_0 := hcc227 0 _ rfl
                       rw [Nat.add_zero, show ((Kd.slice 3 (Kd.int .i64))).sz = 1 from rfl, Nat.mul_one] at hv227_0
                       replace hv227_0 := Option.some.inj (hv227_0.symm.trans hx227_0)
                       injection hv227_0 with hva_ hvn_ hvc_
                       rw [hva_] at ge227_0
                       rw [hvc_] at ul227_0
                       have HL227_0 := Aside0.mk (show Kd.V (Kd.int .i64) 3 _ w.heap.size _ _ (rd_L1 y225 (ji19)) from Kd.V_mk ul227_0 ge227_0)
                       clear hva_ hvn_ hvc_ ge227_0 ul227_0 hcc227 hce227
                       (first | simp only [add_plain] at hx227_0 | simp only [add_at] at hx227_0 | simp only [Addr.add, Nat.zero_add] at hx227_0 | skip)
                       have HR227_0 := Aside0.mk hi227_0
                       have HC227_0 := Aside0.mk hl227_0
                       clear hi227_0 hl227_0
                       replace p227 := eq_true p227
                       replace q227 := eq_true q227
                       refine start_ (n := 11) (S := fun w' => w'.cell? ⟨go33, (x9_2).toNat, none⟩ = some (.slice A226_0 (rd_L1 y225 x9_2).length c226_0) ∧ w'.cell? ⟨go33, ((ji19)).toNat, none⟩ = some (.slice A227_0 (rd_L1 y225 (ji19)).length c227_0)) (ds := []) #[false, false, false, false, false, false, false, false, false, false, false] (by kernel_rfl) rfl rfl ⟨hx226_0, hx227_0⟩ (fun hHeld => ?_); refine with_tabW gampref05_Right.tab10 gampref05_Right.bits10 (fun HT_ HW_ => ?_)
                       generalize w48.drew = w49 at HO_7 HL212_0 HL220_0 BK199 HB HL226_0 HL227_0 HR226_0 HR227_0 hx226_0 hx227_0 hHeld ⊢
                       refine pr 0 37 HT_ ?_
                       refine pr 1 38 HT_ ?_
                       refine pr 2 39 HT_ ?_
                       refine pr 4 41 HT_ ?_
                       refine pr 5 42 HT_ ?_
                       refine pr 6 43 HT_ ?_
                       refine pr 7 44 HT_ ?_
                       refine tr 3 40 HT_ HW_ hHeld ?_
                       refine tr 8 45 HT_ HW_ hHeld ?_
                       refine on 9 (some 46) HT_ (fun K hK => ?_)
                       refine goes_ Try.func62 (by kernel_rfl) rfl #[.slice A226_0 (rd_L1 y225 x9_2).length c226_0, .slice A227_0 (rd_L1 y225 (ji19)).length c227_0] (by rfl) rfl rfl (by (try simp only [List.map_toArray, List.map_cons, List.map_nil]); first | done | (simp only [hji19]; rfl) | rfl | (simp only [List.length_drop, List.length_take]; rfl)) ?_
                       with_reducible refine (gampref05_wrong.calls k3 _ _ (rd_L1 y225 x9_2) _ _ (rd_L1 y225 (ji19)) t228 _ ?side1 ?side2 ?side3 ?side4 A35.out).mono ?_
                       (case side1 => exact cl (HR226_0.out))
                       (case side2 => exact HC226_0.out)
                       (case side3 => exact cl (HR227_0.out))
                       (case side4 => exact HC227_0.out)
                       rintro e w' ⟨rfl, ⟨nd, rfl⟩⟩
                       refine ⟨_, rfl, ?_⟩
                       refine hK.out _ _ ⟨hHeld.1, hHeld.2⟩ (fun hHeld => ?_)
                       clear hK K
                       refine nr (some 46) ?_
                       refine pr 10 10 HT_ ?_
                       refine dn HT_ ?_
                       try go_wp2
                       (try simp only [← hl7_3])
                       go_roundg k3
                       case measure => have := HK1.out; have := HK2.out; have := HK3.out; omega
                       case rel => exact ⟨(y225), (true), (t228), (by first | rfl | (simp; done) | (simp [*]; done)), (by first | rfl | (simp; done) | (simp [*]; done)), H', ⟨by have := HK1.out; have := HK2.out; have := HK3.out; omega⟩, ⟨by (try simp only [hl7_3]); (with_reducible repeat (first | apply Kd.N_alloc | apply Kd.N_drewN | apply Kd.N_drew)); exact HO_7.out⟩, ⟨by (try simp only [hl7_3]); (with_reducible repeat (first | refine blk_drewN ?_ _ | refine blk_drew ?_ | refine blk_alloc ?_ _)); exact BK199.out⟩, ⟨bl HB⟩⟩
                      ·rw [if_neg c31] at H
                       exact absurd H (by simp)
                     ·rw [if_neg c30] at H
                      exact absurd H (by simp)
                    ·rw [if_neg c27] at H
                     exact absurd H (by simp)
                   ·rw [if_neg c26] at H
                    exact absurd H (by simp)
                  ·rw [if_neg c25] at H
                   exact absurd H (by simp)
                 ·rw [if_neg c24] at H
                  exact absurd H (by simp)
                ·rw [if_neg c22] at H
                 exact absurd H (by simp)
               ·rw [if_neg c21] at H
                exact absurd H (by simp)
              ·rw [if_neg c20] at H
               exact absurd H (by simp)
             ·rw [if_neg c18] at H
              have c18b0 : decide (0 ≤ x10_3) = false := decide_eq_false c18
              clear c18
              have H' := Aside0.mk H
              clear H
              go_wp2
              (try simp only [← hl7_3])
              go_roundg k3
              case measure => have := HK1.out; have := HK2.out; have := HK3.out; omega
              case rel => exact ⟨(x7_3), (x8_3), (wrap64 (x9_2 + 1)), (by first | rfl | (simp; done) | (simp [*]; done)), (by first | rfl | (simp; done) | (simp [*]; done)), H', ⟨by have := HK1.out; have := HK2.out; have := HK3.out; omega⟩, ⟨by (try simp only [hl7_3]); (with_reducible repeat (first | apply Kd.N_alloc | apply Kd.N_drewN | apply Kd.N_drew)); exact HO_7.out⟩, ⟨by (try simp only [hl7_3]); (with_reducible repeat (first | refine blk_drewN ?_ _ | refine blk_drew ?_ | refine blk_alloc ?_ _)); exact BK199.out⟩, ⟨bl HB⟩⟩
          ·rw [if_neg c14] at H
           exact absurd H (by simp)
         ·rw [if_neg c12] at H
          exact absurd H (by simp)
        ·rw [if_neg c11] at H
         exact absurd H (by simp)
       ·rw [if_neg c10] at H
        have c10b0 : decide ((wrap64 (x9_2 + 1)) < (x7_2.length : Int)) = false := decide_eq_false c10
        clear c10
        have H' := Aside0.mk H
        clear H
        obtain ⟨Ao50, co50, eo50⟩ := Kd.N_slice HO_7.out
        subst eo50
        go_wp2
        go_roundg k2
        case measure => have := HK1.out; have := HK2.out; omega
        case rel => exact ⟨(x7_2), (x8_2), (by first | rfl | (simp; done) | (simp [*]; done)), H', ⟨by have := HK1.out; have := HK2.out; omega⟩, ⟨nl HO_7⟩, ⟨bk BK199⟩, ⟨bl HB⟩⟩
    ·replace c9 := Bool.eq_false_iff.mpr c9
     subst c9
     have H1 : (gampref05_Right.l3 k1 a0 x7_1 0 a1 ([] : List (List Int))) = some (r1, r2) := by rw [if_neg (show ¬ (false = true) by decide)] at H; exact H
     clear H
     have H := H1
     clear H1
     have H' := Aside0.mk H
     clear H
     go_wp2_with (first | ((with_reducible refine gate_dst (N := 12) rfl ?_); refine box_event ?hg (N := 12) ?hd (cs := #[.int .i64 0, .slice none 0 0]) (t := 26) ?hr ?_; (case hd => rfl); (case hg => rfl); (case hr => first | (go_simp; done) | (go_simp; rfl)); intro gb229 hg w51 hbox hb; have n0_ := Aside0.mk (Kd.N_below (Kd.N_elderB (nl HO_7) gb229 (Nat.le_of_eq hg.symm)) hb); have n1_ := Aside0.mk (blk_below (g := gb199) (o := .cells #[.int .i64 0, .slice none 0 0] 26 (0, 0)) (bk BK199) hb); have n2_ := Aside0.mk (below_step (bl HB) hb); have n3_ := Aside0.mk (hbox); have n4_ := Aside0.mk ((by rw [hg]; exact (below_size (bl HB)) : w.heap.size ≤ gb229)); have n5_ := Aside0.mk ((by rw [hg]; exact (below_size (bl HB)) : w.heap.size ≤ gb229)); have n6_ := Aside0.mk ((by rw [hg]; exact Nat.ne_of_lt (blk_lt (g := gb199) (o := .cells #[.int .i64 0, .slice none 0 0] 26 (0, 0)) (bk BK199)) : gb199 ≠ gb229)); have n7_ := Aside0.mk ((by rw [hg]; exact Nat.ne_of_gt (blk_lt (g := gb199) (o := .cells #[.int .i64 0, .slice none 0 0] 26 (0, 0)) (bk BK199)) : gb229 ≠ gb199)); clear HO_7; clear BK199; clear HB; have HO_7 := n0_; have BK199 := n1_; have HB := n2_; have BK229 := n3_; have GW229 := n4_; have GE229 := n5_; have NB199_229 := n6_; have NB229_199 := n7_; clear n0_ n1_ n2_ n3_ n4_ n5_ n6_ n7_; clear hb hbox hg; have hnb52 := NB229_199.out; have hnc52 := NB199_229.out; have hcz53_0 : w51.cell? ⟨gb229, 0, none⟩ = some (.int .i64 0) := (blk_cell BK229.out 0).trans rfl; have hcz53_1 : w51.cell? ⟨gb229, 1, none⟩ = some (.slice none 0 0) := (blk_cell BK229.out 1).trans rfl; have hfz53_0 := blk_frozen BK229.out 0; have hfz53_1 := blk_frozen BK229.out 1))
     go_loopg [13] k1 (fun kq v13 w' => ∃ (x13_2 : Int) (x230000_2 : Int) (x230001_2 : List (List Int)) (u230001 : Value), v13 = .int .i64 x13_2 ∧ Aside0 (gampref05_Right.l3 kq a0 x7_1 x13_2 x230000_2 x230001_2 = some (r1, r2)) ∧ Aside0 (kq ≤ k1) ∧ Aside0 (Kd.N (Kd.slice 3 (Kd.int .i64)) 22 w' w.heap.size (fun k_ => (P2_ k_ ∨ w.heap.size ≤ k_) ∧ some k_ ≠ (u230001 : Value).ownBlock ∧ k_ ≠ gb199 ∧ k_ ≠ gb229) v204 x7_1) ∧ Aside0 (Kd.N (Kd.slice 3 (Kd.int .i64)) 22 w' w.heap.size (fun k_ => (P2_ k_ ∨ w.heap.size ≤ k_) ∧ some k_ ≠ (v204 : Value).ownBlock ∧ k_ ≠ gb199 ∧ k_ ≠ gb229) u230001 x230001_2) ∧ Aside0 (w'.heap[gb199]? = some (.cells #[.int .i64 0, (.slice none 0 0)] 26 (0, 0))) ∧ Aside0 (w'.heap[gb229]? = some (.cells #[.int .i64 x230000_2, u230001] 26 (0, 0))) ∧ Aside0 (Below w.heap.size w w'))
     case atStart => exact ⟨(0), (a1), (([] : List (List Int))), (.slice none 0 0), (by first | rfl | (simp; done) | (simp [*]; done)), H', ⟨Nat.le_refl _⟩, ⟨by (with_reducible repeat (first | apply Kd.N_alloc | apply Kd.N_drewN | apply Kd.N_drew)); exact Kd.N_mono (Kd.N_far (p := ⟨gb229, 1, none⟩) (Kd.N_far (p := ⟨gb229, 0, none⟩) (Kd.N_mono HO_7.out (fun k_ hk => (⟨hk, hk.2⟩ : _ ∧ k_ ≠ gb229))) (fun _ hk => hk.2) (.int .i64 a1)) (fun _ hk => hk.2) (.slice none 0 0)) (fun _ hk => ⟨hk.1.1.1, ⟨(by simp [Value.ownBlock]), ⟨hk.1.1.2, hk.1.2⟩⟩⟩)⟩, ⟨by first | exact Kd.S_nil _ _ _ _ _ | exact Kd.N_nil _ _ _ _ _ | exact Kd.V_nil _ _ _ _ _ | exact Kd.Q_nil _ _ _ _ _ | exact Kd.R_nil _ _ _ _ _⟩, ⟨by (with_reducible repeat (first | refine blk_drewN ?_ _ | refine blk_drew ?_ | refine blk_alloc ?_ _)); refine blk_far ?_ NB199_229.out _; (with_reducible repeat (first | refine blk_drewN ?_ _ | refine blk_drew ?_ | refine blk_alloc ?_ _)); refine blk_far ?_ NB199_229.out _; (with_reducible repeat (first | refine blk_drewN ?_ _ | refine blk_drew ?_ | refine blk_alloc ?_ _)); exact BK199.out⟩, ⟨by (with_reducible repeat (first | refine blk_drewN ?_ _ | refine blk_drew ?_ | refine blk_alloc ?_ _)); refine blk_put (cs := #[.int .i64 a1, .slice none 0 0]) ?_ 1 _ rfl; (with_reducible repeat (first | refine blk_drewN ?_ _ | refine blk_drew ?_ | refine blk_alloc ?_ _)); refine blk_put (cs := #[.int .i64 0, .slice none 0 0]) ?_ 0 _ rfl; (with_reducible repeat (first | refine blk_drewN ?_ _ | refine blk_drew ?_ | refine blk_alloc ?_ _)); exact BK229.out⟩, ⟨bl HB⟩⟩
     case round =>
      clear H'
      try clear c1
      try clear c2
      try clear p2
      try clear q2
      try clear hx2
      try clear c3
      try clear p3
      try clear q3
      try clear hx3
      try clear hf3
      try clear c4
      try clear hx4
      try clear hf4
      try clear c5
      try clear c6
      try clear p6
      try clear c9
      try clear c10
      try clear c10b0
      try clear c11
      try clear c11b0
      try clear c12
      try clear c12b0
      try clear c14
      try clear c14b0
      try clear c18
      try clear c18b0
      try clear c20
      try clear c20b0
      try clear p20
      try clear q20
      try clear hx20
      try clear c21
      try clear c21b0
      try clear p21
      try clear q21
      try clear hx21
      try clear c22
      try clear p22
      try clear q22
      try clear hx22
      try clear c24
      try clear c24b0
      try clear c25
      try clear c25b0
      try clear c26
      try clear c26b0
      try clear c27
      try clear c27b0
      try clear p28
      try clear q28
      try clear hx28
      try clear hf28
      try clear p29
      try clear q29
      try clear hx29
      try clear hf29
      try clear c30
      try clear c30b0
      try clear c31
      try clear c31b0
      try clear c33
      try clear p33
      try clear q33
      try clear hx33
      try clear hf33
      try clear c34
      try clear p34
      try clear q34
      try clear hx34
      try clear hf34
      try clear c45
      try clear hx45
      try clear hf45
      try clear c47
      try clear hx47
      try clear hf47
      try clear c52
      try clear hcz53_0
      try clear hcz53_1
      try clear hfz53_0
      try clear hfz53_1
      try clear hx206_0
      try clear hx207_0
      try clear hx212_0
      try clear hx216_0
      try clear hx217_0
      try clear hx220_0
      try clear hx226_0
      try clear hx227_0
      try clear hx28_0
      try clear hx29_0
      try clear hx33_0
      try clear hx34_0
      try clear hx45_0
      try clear hx47_0
      try clear p2
      try clear p206
      try clear p207
      try clear p212
      try clear p216
      try clear p217
      try clear p220
      try clear p226
      try clear p227
      try clear p28
      try clear p29
      try clear p33
      try clear p34
      try clear p6
      try clear q2
      try clear q206
      try clear q207
      try clear q212
      try clear q216
      try clear q217
      try clear q220
      try clear q226
      try clear q227
      try clear q28
      try clear q29
      try clear q33
      try clear q34
      obtain ⟨x13_2, x230000_2, x230001_2, u230001, rfl, HA, HK2, HO_7, HO_230001, BK199, BK229, HB⟩ := hrel
      cases gk with
      | zero => exact absurd HA.out (by simp [gampref05_Right.l3])
      | succ k2 =>
       have H := HA.out
       clear HA
       simp only [gampref05_Right.l3] at H
       by_cases c54 : x13_2 < (x7_1.length : Int)
       ·rw [if_pos c54] at H
        have c54b0 : decide (x13_2 < (x7_1.length : Int)) = true := decide_eq_true c54
        clear c54
        by_cases c55 : 0 ≤ x13_2
        ·rw [if_pos c55] at H
         have c55b0 : decide (0 ≤ x13_2) = true := decide_eq_true c55
         clear c55
         replace H := Option.bind_eq_some_iff.mp H
         obtain ⟨t231, A560, H⟩ := H
         replace H : ((gampref05_Same.f k2 (rd_L1 x7_1 x13_2) t231).bind fun t234 => (if t234 = true then (gampref05_Right.l3 k2 a0 x7_1 (wrap64 (x13_2 + 1)) (wrap64 (x230000_2 + 1)) x230001_2) else ((gampref05_One.f k2 a0).bind fun t236 => ((gampref05_Same.f k2 (rd_L1 x7_1 x13_2) t236).bind fun t239 => (if t239 = true then (gampref05_Right.l3 k2 a0 x7_1 (wrap64 (x13_2 + 1)) x230000_2 x230001_2) else (if x230001_2.length < 5864062014805 then (gampref05_Right.l3 k2 a0 x7_1 (wrap64 (x13_2 + 1)) x230000_2 (x230001_2 ++ [rd_L1 x7_1 x13_2])) else (none))))))) = some (r1, r2) := H
         have A56 := Aside0.mk A560
         clear A560
         replace H := Option.bind_eq_some_iff.mp H
         obtain ⟨t234, A570, H⟩ := H
         replace H : (if t234 = true then (gampref05_Right.l3 k2 a0 x7_1 (wrap64 (x13_2 + 1)) (wrap64 (x230000_2 + 1)) x230001_2) else ((gampref05_One.f k2 a0).bind fun t236 => ((gampref05_Same.f k2 (rd_L1 x7_1 x13_2) t236).bind fun t239 => (if t239 = true then (gampref05_Right.l3 k2 a0 x7_1 (wrap64 (x13_2 + 1)) x230000_2 x230001_2) else (if x230001_2.length < 5864062014805 then (gampref05_Right.l3 k2 a0 x7_1 (wrap64 (x13_2 + 1)) x230000_2 (x230001_2 ++ [rd_L1 x7_1 x13_2])) else (none)))))) = some (r1, r2) := H
         have A57 := Aside0.mk A570
         clear A570
         by_cases c58 : t234 = true
         ·subst c58
          have H1 : (gampref05_Right.l3 k2 a0 x7_1 (wrap64 (x13_2 + 1)) (wrap64 (x230000_2 + 1)) x230001_2) = some (r1, r2) := by rw [if_pos rfl] at H; exact H
          clear H
          have H := H1
          clear H1
          have H' := Aside0.mk H
          clear H
          obtain ⟨Ao59, co59, eo59⟩ := Kd.N_slice HO_7.out
          subst eo59
          try go_wp2
          have n0_ := Aside0.mk (Kd.N_drew HO_7.out)
          have n1_ := Aside0.mk (Kd.N_drew HO_230001.out)
          have n2_ := Aside0.mk (blk_drew BK199.out)
          have n3_ := Aside0.mk (blk_drew BK229.out)
          have n4_ := Aside0.mk (below_drew1 HB.out)
          clear HO_7 HO_230001 BK199 BK229 HB
          have HO_7 := n0_; have HO_230001 := n1_; have BK199 := n2_; have BK229 := n3_; have HB := n4_
          clear n0_ n1_ n2_ n3_ n4_
          have p230 : 0 ≤ (x13_2 : Int) := ofd
          have q230 : x13_2 < (x7_1.length : Int) := ofd
          obtain ⟨ad230, A230_0, c230_0, e230, hx230_0, hl230_0, hi230_0⟩ := at_L1 (Kd.N_reads' HO_7.out).2.2 x13_2 p230 q230
          cases e230
          obtain ⟨ce230, hce230, hMe230, hcc230⟩ := Kd.N_get HO_7.out [] x13_2 p230 (by first | exact q230 | exact ofd | (have e_ := (Kd.N_reads' HO_7.out).1; omega))
          obtain ⟨ua230_0, uc230_0, rfl, ul230_0, ge230_0⟩ := Kd.FK_slice_open hMe230
          have hv230_0 := hcc230 0 _ rfl
          rw [Nat.add_zero, show ((Kd.slice 3 (Kd.int .i64))).sz = 1 from rfl, Nat.mul_one] at hv230_0
          replace hv230_0 := Option.some.inj (hv230_0.symm.trans hx230_0)
          injection hv230_0 with hva_ hvn_ hvc_
          rw [hva_] at ge230_0
          rw [hvc_] at ul230_0
          have HL230_0 := Aside0.mk (show Kd.V (Kd.int .i64) 3 _ w.heap.size _ _ (rd_L1 x7_1 x13_2) from Kd.V_mk ul230_0 ge230_0)
          clear hva_ hvn_ hvc_ ge230_0 ul230_0 hcc230 hce230
          have HR230_0 := Aside0.mk hi230_0
          have HC230_0 := Aside0.mk hl230_0
          clear hi230_0 hl230_0
          replace p230 := eq_true p230
          replace q230 := eq_true q230
          refine start_ (n := 7) (S := fun w' => w'.cell? (ad230.add (x13_2).toNat) = some (.slice A230_0 (rd_L1 x7_1 x13_2).length c230_0)) (ds := []) #[false, false, false, false, false, false, false] (by kernel_rfl) rfl rfl (hx230_0) (fun hHeld => ?_)
          generalize wr.drew = w60 at HO_7 HO_230001 BK199 BK229 HB HL230_0 HR230_0 hx230_0 hHeld ⊢
          refine pure_ (i := 0) (N := some 92) (v := ?_) (a' := ?_) #[true, false, false, false, false, false, false] rfl rfl (by kernel_rfl) (fun _ _ _ h => h) (Or.inl ⟨by rfl, ?_⟩) ?_ ?_
          rotate_left
          ·intro w'
           go_simp
           with_reducible rfl
          rotate_left
          ·simp only [Act.put, List.setIfInBounds_toArray, List.set_cons_zero, List.set_cons_succ, i64_w, i32_w]
           rfl
          refine pure_ (i := 1) (N := some 93) (v := ?_) (a' := ?_) #[true, true, false, false, false, false, false] rfl rfl (by kernel_rfl) (fun _ _ _ h => h) (Or.inl ⟨by rfl, ?_⟩) ?_ ?_
          rotate_left
          ·intro w'
           go_simp
           with_reducible rfl
          rotate_left
          ·simp only [Act.put, List.setIfInBounds_toArray, List.set_cons_zero, List.set_cons_succ, i64_w, i32_w]
           rfl
          refine pure_ (i := 2) (N := some 94) (v := ?_) (a' := ?_) #[true, true, true, false, false, false, false] rfl rfl (by kernel_rfl) (fun _ _ _ h => h) (Or.inl ⟨by rfl, ?_⟩) ?_ ?_
          rotate_left
          ·intro w'
           go_simp
           with_reducible rfl
          rotate_left
          ·simp only [Act.put, List.setIfInBounds_toArray, List.set_cons_zero, List.set_cons_succ, i64_w, i32_w]
           rfl
          refine pure_ (i := 4) (N := some 96) (v := ?_) (a' := ?_) #[true, true, true, false, true, false, false] rfl rfl (by kernel_rfl) (fun _ _ _ h => h) (Or.inl ⟨by rfl, ?_⟩) ?_ ?_
          rotate_left
          ·intro w'
           go_simp
           with_reducible rfl
          rotate_left
          ·simp only [Act.put, List.setIfInBounds_toArray, List.set_cons_zero, List.set_cons_succ, i64_w, i32_w]
           rfl
          refine take_ (i := 3) (N := some 95) (v := ?_) (a' := ?_) #[true, true, true, true, true, false, false] rfl rfl (by kernel_rfl) (fun _ _ _ h => h) (Or.inl ⟨by rfl, ?_⟩) hHeld ?_ ?_
          rotate_left
          ·intro w' s0
           go_simp
           with_reducible rfl
          rotate_left
          ·simp only [Act.put, List.setIfInBounds_toArray, List.set_cons_zero, List.set_cons_succ, i64_w, i32_w]
           rfl
          refine one_ (i := 5) (N := some 97) #[true, true, true, true, true, true, false] rfl rfl (by kernel_rfl) (by decide) (fun K hK => ?_)
          refine gS Try.func29 #[.int .i64 a0] ?_
          with_reducible refine (gampref05_Half.calls k2 a0 t231 _ A56.out).mono ?_
          rintro e w61 ⟨v232, rfl, ho0, hb⟩
          have HS0_ := (hb.cell (World.block_lt_of_cell? _ _ (hHeld))).trans (hHeld)
          refine ⟨_, rfl, ?_⟩
          have n0_ := Aside0.mk (Kd.N_elder' (nl HO_7) (Kd.R_base ho0) hb)
          have n1_ := Aside0.mk (Kd.N_elder' (nl HO_230001) (Kd.R_base ho0) hb)
          have n2_ := Aside0.mk (Kd.V_elder' (vl HL230_0) (Kd.R_base ho0) hb)
          have n3_ := Aside0.mk (Kd.R_lower (Kd.R_newM (M := fun k_ => (w.heap.size ≤ k_)) ho0 (below_size (bl HB)) (fun k_ h_ => h_)) (below_size (bl HB)))
          have n4_ := Aside0.mk (blk_below (g := gb199) (o := .cells #[.int .i64 0, .slice none 0 0] 26 (0, 0)) (bk BK199) hb)
          have n5_ := Aside0.mk (blk_below (g := gb229) (o := .cells #[.int .i64 x230000_2, u230001] 26 (0, 0)) (bk BK229) hb)
          have n6_ := Aside0.mk (Kd.C_below (cl HR230_0.out) hb)
          have n7_ := Aside0.mk (below_step (bl HB) hb)
          clear HO_7 HO_230001 HL230_0 BK199 BK229 HR230_0 HB
          have HO_7 := n0_; have HO_230001 := n1_; have HL230_0 := n2_; have HO233 := n3_; have BK199 := n4_; have BK229 := n5_; have HR230_0 := n6_; have HB := n7_
          clear n0_ n1_ n2_ n3_ n4_ n5_ n6_ n7_
          (try clear hb)
          (try clear hb2)
          (try clear hk)
          (try clear hi)
          (try clear ho0)
          obtain ⟨Ao62, co62, eo62⟩ := Kd.R_slice HO233.out
          (first | subst eo62 | (injection eo62 with f1_ f2_ f3_; have f4_ := f1_.symm; have f5_ := f3_.symm; clear f1_ f2_ f3_; subst f4_; subst f5_))
          refine hK.out _ _ (HS0_) (fun hHeld => ?_)
          clear hK K
          refine nr (some 97) ?_
          refine one_ (i := 6) (N := some 98) #[true, true, true, true, true, true, true] rfl rfl (by kernel_rfl) (by decide) (fun K hK => ?_)
          refine gS Try.func47 #[.slice A230_0 (rd_L1 x7_1 x13_2).length c230_0, .slice Ao62 t231.length co62] ?_
          with_reducible refine (gampref05_Same.calls k2 _ _ (rd_L1 x7_1 x13_2) _ _ t231 true _ ?side1 ?side2 ?side3 ?side4 A57.out).mono ?_
          (case side1 => exact cl (HR230_0.out))
          (case side2 => exact HC230_0.out)
          (case side3 => exact cl ((Kd.R_reads' HO233.out).2.2))
          (case side4 => exact (Kd.R_reads' HO233.out).2.1)
          rintro e w' ⟨rfl, ⟨nd, rfl⟩⟩
          refine ⟨_, rfl, ?_⟩
          refine hK.out _ _ (hHeld) (fun hHeld => ?_)
          clear hK K
          refine nr (some 98) ?_
          refine done_ (by kernel_rfl) ?_
          have hnb63 := NB229_199.out
          have hnc63 := NB199_229.out
          have hcz64_0 : w61.cell? ⟨gb229, 0, none⟩ = some (.int .i64 x230000_2) := (blk_cell BK229.out 0).trans rfl
          have hcz64_1 : w61.cell? ⟨gb229, 1, none⟩ = some (u230001) := (blk_cell BK229.out 1).trans rfl
          have hfz64_0 := blk_frozen BK229.out 0
          have hfz64_1 := blk_frozen BK229.out 1
          try go_wp2
          go_roundg k2
          case measure => have := HK1.out; have := HK2.out; omega
          case rel => exact ⟨(wrap64 (x13_2 + 1)), (wrap64 (x230000_2 + 1)), (x230001_2), (u230001), (by first | rfl | (simp; done) | (simp [*]; done)), H', ⟨by have := HK1.out; have := HK2.out; omega⟩, ⟨by (with_reducible repeat (first | apply Kd.N_alloc | apply Kd.N_drewN | apply Kd.N_drew)); exact Kd.N_mono (Kd.N_far (p := ⟨gb229, 0, none⟩) (Kd.N_mono HO_7.out (fun k_ hk => (⟨hk, hk.1.2.2.2⟩ : _ ∧ k_ ≠ gb229))) (fun _ hk => hk.2) (.int .i64 (wrap64 (x230000_2 + 1)))) (fun _ hk => (by (repeat cases ‹_ ∧ _›); (repeat' (first | assumption | apply And.intro))))⟩, ⟨by (with_reducible repeat (first | apply Kd.N_alloc | apply Kd.N_drewN | apply Kd.N_drew)); exact Kd.N_mono (Kd.N_far (p := ⟨gb229, 0, none⟩) (Kd.N_mono HO_230001.out (fun k_ hk => (⟨hk, hk.1.2.2.2⟩ : _ ∧ k_ ≠ gb229))) (fun _ hk => hk.2) (.int .i64 (wrap64 (x230000_2 + 1)))) (fun _ hk => (by (repeat cases ‹_ ∧ _›); (repeat' (first | assumption | apply And.intro))))⟩, ⟨by (with_reducible repeat (first | refine blk_drewN ?_ _ | refine blk_drew ?_ | refine blk_alloc ?_ _)); refine blk_far ?_ NB199_229.out _; (with_reducible repeat (first | refine blk_drewN ?_ _ | refine blk_drew ?_ | refine blk_alloc ?_ _)); exact BK199.out⟩, ⟨by (with_reducible repeat (first | refine blk_drewN ?_ _ | refine blk_drew ?_ | refine blk_alloc ?_ _)); refine blk_put (cs := #[.int .i64 x230000_2, u230001]) ?_ 0 _ rfl; (with_reducible repeat (first | refine blk_drewN ?_ _ | refine blk_drew ?_ | refine blk_alloc ?_ _)); exact BK229.out⟩, ⟨bl HB⟩⟩
         ·replace c58 := Bool.eq_false_iff.mpr c58
          subst c58
          have H1 : ((gampref05_One.f k2 a0).bind fun t236 => ((gampref05_Same.f k2 (rd_L1 x7_1 x13_2) t236).bind fun t239 => (if t239 = true then (gampref05_Right.l3 k2 a0 x7_1 (wrap64 (x13_2 + 1)) x230000_2 x230001_2) else (if x230001_2.length < 5864062014805 then (gampref05_Right.l3 k2 a0 x7_1 (wrap64 (x13_2 + 1)) x230000_2 (x230001_2 ++ [rd_L1 x7_1 x13_2])) else (none))))) = some (r1, r2) := by rw [if_neg (show ¬ (false = true) by decide)] at H; exact H
          clear H
          have H := H1
          clear H1
          replace H := Option.bind_eq_some_iff.mp H
          obtain ⟨t236, A650, H⟩ := H
          replace H : ((gampref05_Same.f k2 (rd_L1 x7_1 x13_2) t236).bind fun t239 => (if t239 = true then (gampref05_Right.l3 k2 a0 x7_1 (wrap64 (x13_2 + 1)) x230000_2 x230001_2) else (if x230001_2.length < 5864062014805 then (gampref05_Right.l3 k2 a0 x7_1 (wrap64 (x13_2 + 1)) x230000_2 (x230001_2 ++ [rd_L1 x7_1 x13_2])) else (none)))) = some (r1, r2) := H
          have A65 := Aside0.mk A650
          clear A650
          replace H := Option.bind_eq_some_iff.mp H
          obtain ⟨t239, A660, H⟩ := H
          replace H : (if t239 = true then (gampref05_Right.l3 k2 a0 x7_1 (wrap64 (x13_2 + 1)) x230000_2 x230001_2) else (if x230001_2.length < 5864062014805 then (gampref05_Right.l3 k2 a0 x7_1 (wrap64 (x13_2 + 1)) x230000_2 (x230001_2 ++ [rd_L1 x7_1 x13_2])) else (none))) = some (r1, r2) := H
          have A66 := Aside0.mk A660
          clear A660
          by_cases c67 : t239 = true
          ·subst c67
           have H1 : (gampref05_Right.l3 k2 a0 x7_1 (wrap64 (x13_2 + 1)) x230000_2 x230001_2) = some (r1, r2) := by rw [if_pos rfl] at H; exact H
           clear H
           have H := H1
           clear H1
           have H' := Aside0.mk H
           clear H
           obtain ⟨Ao68, co68, eo68⟩ := Kd.N_slice HO_7.out
           subst eo68
           try go_wp2
           have n0_ := Aside0.mk (Kd.N_drew HO_7.out)
           have n1_ := Aside0.mk (Kd.N_drew HO_230001.out)
           have n2_ := Aside0.mk (blk_drew BK199.out)
           have n3_ := Aside0.mk (blk_drew BK229.out)
           have n4_ := Aside0.mk (below_drew1 HB.out)
           clear HO_7 HO_230001 BK199 BK229 HB
           have HO_7 := n0_; have HO_230001 := n1_; have BK199 := n2_; have BK229 := n3_; have HB := n4_
           clear n0_ n1_ n2_ n3_ n4_
           have p230 : 0 ≤ (x13_2 : Int) := ofd
           have q230 : x13_2 < (x7_1.length : Int) := ofd
           obtain ⟨ad230, A230_0, c230_0, e230, hx230_0, hl230_0, hi230_0⟩ := at_L1 (Kd.N_reads' HO_7.out).2.2 x13_2 p230 q230
           cases e230
           obtain ⟨ce230, hce230, hMe230, hcc230⟩ := Kd.N_get HO_7.out [] x13_2 p230 (by first | exact q230 | exact ofd | (have e_ := (Kd.N_reads' HO_7.out).1; omega))
           obtain ⟨ua230_0, uc230_0, rfl, ul230_0, ge230_0⟩ := Kd.FK_slice_open hMe230
           have hv230_0 := hcc230 0 _ rfl
           rw [Nat.add_zero, show ((Kd.slice 3 (Kd.int .i64))).sz = 1 from rfl, Nat.mul_one] at hv230_0
           replace hv230_0 := Option.some.inj (hv230_0.symm.trans hx230_0)
           injection hv230_0 with hva_ hvn_ hvc_
           rw [hva_] at ge230_0
           rw [hvc_] at ul230_0
           have HL230_0 := Aside0.mk (show Kd.V (Kd.int .i64) 3 _ w.heap.size _ _ (rd_L1 x7_1 x13_2) from Kd.V_mk ul230_0 ge230_0)
           clear hva_ hvn_ hvc_ ge230_0 ul230_0 hcc230 hce230
           have HR230_0 := Aside0.mk hi230_0
           have HC230_0 := Aside0.mk hl230_0
           clear hi230_0 hl230_0
           replace p230 := eq_true p230
           replace q230 := eq_true q230
           refine start_ (n := 7) (S := fun w' => w'.cell? (ad230.add (x13_2).toNat) = some (.slice A230_0 (rd_L1 x7_1 x13_2).length c230_0)) (ds := []) #[false, false, false, false, false, false, false] (by kernel_rfl) rfl rfl (hx230_0) (fun hHeld => ?_)
           generalize wr.drew = w69 at HO_7 HO_230001 BK199 BK229 HB HL230_0 HR230_0 hx230_0 hHeld ⊢
           refine pure_ (i := 0) (N := some 92) (v := ?_) (a' := ?_) #[true, false, false, false, false, false, false] rfl rfl (by kernel_rfl) (fun _ _ _ h => h) (Or.inl ⟨by rfl, ?_⟩) ?_ ?_
           rotate_left
           ·intro w'
            go_simp
            with_reducible rfl
           rotate_left
           ·simp only [Act.put, List.setIfInBounds_toArray, List.set_cons_zero, List.set_cons_succ, i64_w, i32_w]
            rfl
           refine pure_ (i := 1) (N := some 93) (v := ?_) (a' := ?_) #[true, true, false, false, false, false, false] rfl rfl (by kernel_rfl) (fun _ _ _ h => h) (Or.inl ⟨by rfl, ?_⟩) ?_ ?_
           rotate_left
           ·intro w'
            go_simp
            with_reducible rfl
           rotate_left
           ·simp only [Act.put, List.setIfInBounds_toArray, List.set_cons_zero, List.set_cons_succ, i64_w, i32_w]
            rfl
           refine pure_ (i := 2) (N := some 94) (v := ?_) (a' := ?_) #[true, true, true, false, false, false, false] rfl rfl (by kernel_rfl) (fun _ _ _ h => h) (Or.inl ⟨by rfl, ?_⟩) ?_ ?_
           rotate_left
           ·intro w'
            go_simp
            with_reducible rfl
           rotate_left
           ·simp only [Act.put, List.setIfInBounds_toArray, List.set_cons_zero, List.set_cons_succ, i64_w, i32_w]
            rfl
           refine pure_ (i := 4) (N := some 96) (v := ?_) (a' := ?_) #[true, true, true, false, true, false, false] rfl rfl (by kernel_rfl) (fun _ _ _ h => h) (Or.inl ⟨by rfl, ?_⟩) ?_ ?_
           rotate_left
           ·intro w'
            go_simp
            with_reducible rfl
           rotate_left
           ·simp only [Act.put, List.setIfInBounds_toArray, List.set_cons_zero, List.set_cons_succ, i64_w, i32_w]
            rfl
           refine take_ (i := 3) (N := some 95) (v := ?_) (a' := ?_) #[true, true, true, true, true, false, false] rfl rfl (by kernel_rfl) (fun _ _ _ h => h) (Or.inl ⟨by rfl, ?_⟩) hHeld ?_ ?_
           rotate_left
           ·intro w' s0
            go_simp
            with_reducible rfl
           rotate_left
           ·simp only [Act.put, List.setIfInBounds_toArray, List.set_cons_zero, List.set_cons_succ, i64_w, i32_w]
            rfl
           refine one_ (i := 5) (N := some 97) #[true, true, true, true, true, true, false] rfl rfl (by kernel_rfl) (by decide) (fun K hK => ?_)
           refine gS Try.func29 #[.int .i64 a0] ?_
           with_reducible refine (gampref05_Half.calls k2 a0 t231 _ A56.out).mono ?_
           rintro e w70 ⟨v232, rfl, ho0, hb⟩
           have HS0_ := (hb.cell (World.block_lt_of_cell? _ _ (hHeld))).trans (hHeld)
           refine ⟨_, rfl, ?_⟩
           have n0_ := Aside0.mk (Kd.N_elder' (nl HO_7) (Kd.R_base ho0) hb)
           have n1_ := Aside0.mk (Kd.N_elder' (nl HO_230001) (Kd.R_base ho0) hb)
           have n2_ := Aside0.mk (Kd.V_elder' (vl HL230_0) (Kd.R_base ho0) hb)
           have n3_ := Aside0.mk (Kd.R_lower (Kd.R_newM (M := fun k_ => (w.heap.size ≤ k_)) ho0 (below_size (bl HB)) (fun k_ h_ => h_)) (below_size (bl HB)))
           have n4_ := Aside0.mk (blk_below (g := gb199) (o := .cells #[.int .i64 0, .slice none 0 0] 26 (0, 0)) (bk BK199) hb)
           have n5_ := Aside0.mk (blk_below (g := gb229) (o := .cells #[.int .i64 x230000_2, u230001] 26 (0, 0)) (bk BK229) hb)
           have n6_ := Aside0.mk (Kd.C_below (cl HR230_0.out) hb)
           have n7_ := Aside0.mk (below_step (bl HB) hb)
           clear HO_7 HO_230001 HL230_0 BK199 BK229 HR230_0 HB
           have HO_7 := n0_; have HO_230001 := n1_; have HL230_0 := n2_; have HO233 := n3_; have BK199 := n4_; have BK229 := n5_; have HR230_0 := n6_; have HB := n7_
           clear n0_ n1_ n2_ n3_ n4_ n5_ n6_ n7_
           (try clear hb)
           (try clear hb2)
           (try clear hk)
           (try clear hi)
           (try clear ho0)
           obtain ⟨Ao71, co71, eo71⟩ := Kd.R_slice HO233.out
           (first | subst eo71 | (injection eo71 with f1_ f2_ f3_; have f4_ := f1_.symm; have f5_ := f3_.symm; clear f1_ f2_ f3_; subst f4_; subst f5_))
           refine hK.out _ _ (HS0_) (fun hHeld => ?_)
           clear hK K
           refine nr (some 97) ?_
           refine one_ (i := 6) (N := some 98) #[true, true, true, true, true, true, true] rfl rfl (by kernel_rfl) (by decide) (fun K hK => ?_)
           refine gS Try.func47 #[.slice A230_0 (rd_L1 x7_1 x13_2).length c230_0, .slice Ao71 t231.length co71] ?_
           with_reducible refine (gampref05_Same.calls k2 _ _ (rd_L1 x7_1 x13_2) _ _ t231 false _ ?side1 ?side2 ?side3 ?side4 A57.out).mono ?_
           (case side1 => exact cl (HR230_0.out))
           (case side2 => exact HC230_0.out)
           (case side3 => exact cl ((Kd.R_reads' HO233.out).2.2))
           (case side4 => exact (Kd.R_reads' HO233.out).2.1)
           rintro e w' ⟨rfl, ⟨nd, rfl⟩⟩
           refine ⟨_, rfl, ?_⟩
           refine hK.out _ _ (hHeld) (fun hHeld => ?_)
           clear hK K
           refine nr (some 98) ?_
           refine done_ (by kernel_rfl) ?_
           try go_wp2
           (try (rw [drewN_self w70]; generalize hq_ : World.drewN w70 _ = w70; have n0_ : Aside0 (Kd.V (Kd.int .i64) 3 w70 w.heap.size (fun k_ => (P2_ k_ ∨ w.heap.size ≤ k_) ∧ some k_ ≠ (.slice Ao71 t231.length co71 : Value).ownBlock ∧ some k_ ≠ (u230001 : Value).ownBlock ∧ some k_ ≠ (.slice (some ad230) x7_1.length co68 : Value).ownBlock ∧ k_ ≠ gb199 ∧ k_ ≠ gb229) (.slice A230_0 (rd_L1 x7_1 x13_2).length c230_0) (rd_L1 x7_1 x13_2)) := ⟨by rw [← hq_]; exact (by (with_reducible repeat (first | apply Kd.V_alloc | apply Kd.V_drewN | apply Kd.V_drew)); exact Kd.V_mono HL230_0.out (fun _ hk => (by (repeat cases ‹_ ∧ _›); (repeat' (first | assumption | apply And.intro)))))⟩; have n1_ : Aside0 (Kd.R (Kd.int .i64) 3 w70 w.heap.size (fun k_ => (w.heap.size ≤ k_)) (.slice Ao71 t231.length co71) t231) := ⟨by rw [← hq_]; exact (by (with_reducible repeat (first | apply Kd.R_alloc | apply Kd.R_drewN | apply Kd.R_drew)); exact Kd.R_mono HO233.out (fun _ hk => hk.1))⟩; have n2_ : Aside0 (Kd.N (Kd.slice 3 (Kd.int .i64)) 22 w70 w.heap.size (fun k_ => (P2_ k_ ∨ w.heap.size ≤ k_) ∧ some k_ ≠ (.slice Ao71 t231.length co71 : Value).ownBlock ∧ some k_ ≠ (.slice (some ad230) x7_1.length co68 : Value).ownBlock ∧ k_ ≠ gb199 ∧ k_ ≠ gb229) u230001 x230001_2) := ⟨by rw [← hq_]; exact (by (with_reducible repeat (first | apply Kd.N_alloc | apply Kd.N_drewN | apply Kd.N_drew)); exact Kd.N_mono HO_230001.out (fun _ hk => (by (repeat cases ‹_ ∧ _›); (repeat' (first | assumption | apply And.intro)))))⟩; have n3_ : Aside0 (Kd.N (Kd.slice 3 (Kd.int .i64)) 22 w70 w.heap.size (fun k_ => (P2_ k_ ∨ w.heap.size ≤ k_) ∧ some k_ ≠ (.slice Ao71 t231.length co71 : Value).ownBlock ∧ some k_ ≠ (u230001 : Value).ownBlock ∧ k_ ≠ gb199 ∧ k_ ≠ gb229) (.slice (some ad230) x7_1.length co68) x7_1) := ⟨by rw [← hq_]; exact (by (with_reducible repeat (first | apply Kd.N_alloc | apply Kd.N_drewN | apply Kd.N_drew)); exact Kd.N_mono HO_7.out (fun _ hk => (by (repeat cases ‹_ ∧ _›); (repeat' (first | assumption | apply And.intro)))))⟩; have n4_ : Aside0 (w70.heap[gb199]? = some (.cells #[.int .i64 0, .slice none 0 0] 26 (0, 0))) := ⟨by rw [← hq_]; exact (bk BK199)⟩; have n5_ : Aside0 (w70.heap[gb229]? = some (.cells #[.int .i64 x230000_2, u230001] 26 (0, 0))) := ⟨by rw [← hq_]; exact (bk BK229)⟩; have n6_ : Aside0 (Below w.heap.size w w70) := ⟨by rw [← hq_]; exact (bl HB)⟩; have n7_ : Aside0 (Kd.C (Kd.int .i64) w70 A230_0 (rd_L1 x7_1 x13_2).length (rd_L1 x7_1 x13_2)) := ⟨by rw [← hq_]; exact (cl HR230_0.out)⟩; clear HL230_0 HO233 HO_230001 HO_7 BK199 BK229 HB HR230_0 hq_; have HL230_0 := n0_; have HO233 := n1_; have HO_230001 := n2_; have HO_7 := n3_; have BK199 := n4_; have BK229 := n5_; have HB := n6_; have HR230_0 := n7_; clear n0_ n1_ n2_ n3_ n4_ n5_ n6_ n7_))
           have n0_ := Aside0.mk (Kd.N_drew HO_7.out)
           have n1_ := Aside0.mk (Kd.N_drew HO_230001.out)
           have n2_ := Aside0.mk (Kd.V_drew HL230_0.out)
           have n3_ := Aside0.mk (Kd.R_drew HO233.out)
           have n4_ := Aside0.mk (blk_drew BK199.out)
           have n5_ := Aside0.mk (blk_drew BK229.out)
           have n6_ := Aside0.mk (Kd.C_drew HR230_0.out)
           have n7_ := Aside0.mk (below_drew1 HB.out)
           clear HO_7 HO_230001 HL230_0 HO233 BK199 BK229 HR230_0 HB
           have HO_7 := n0_; have HO_230001 := n1_; have HL230_0 := n2_; have HO233 := n3_; have BK199 := n4_; have BK229 := n5_; have HR230_0 := n6_; have HB := n7_
           clear n0_ n1_ n2_ n3_ n4_ n5_ n6_ n7_
           have p235 : 0 ≤ (x13_2 : Int) := ofd
           have q235 : x13_2 < (x7_1.length : Int) := ofd
           obtain ⟨ad235, A235_0, c235_0, e235, hx235_0, hl235_0, hi235_0⟩ := at_L1 (Kd.N_reads' HO_7.out).2.2 x13_2 p235 q235
           obtain rfl : ad230 = ad235 := (by injection e235)
           obtain ⟨ce235, hce235, hMe235, hcc235⟩ := Kd.N_get HO_7.out [] x13_2 p235 (by first | exact q235 | exact ofd | (have e_ := (Kd.N_reads' HO_7.out).1; omega))
           obtain ⟨ua235_0, uc235_0, rfl, ul235_0, ge235_0⟩ := Kd.FK_slice_open hMe235
           have hv235_0 := hcc235 0 _ rfl
           rw [Nat.add_zero, show ((Kd.slice 3 (Kd.int .i64))).sz = 1 from rfl, Nat.mul_one] at hv235_0
           replace hv235_0 := Option.some.inj (hv235_0.symm.trans hx235_0)
           injection hv235_0 with hva_ hvn_ hvc_
           rw [hva_] at ge235_0
           rw [hvc_] at ul235_0
           have HL235_0 := Aside0.mk (show Kd.V (Kd.int .i64) 3 _ w.heap.size _ _ (rd_L1 x7_1 x13_2) from Kd.V_mk ul235_0 ge235_0)
           clear hva_ hvn_ hvc_ ge235_0 ul235_0 hcc235 hce235
           have HR235_0 := Aside0.mk hi235_0
           have HC235_0 := Aside0.mk hl235_0
           clear hi235_0 hl235_0
           replace p235 := eq_true p235
           replace q235 := eq_true q235
           refine start_ (n := 8) (S := fun w' => w'.cell? (ad230.add (x13_2).toNat) = some (.slice A235_0 (rd_L1 x7_1 x13_2).length c235_0)) (ds := []) #[false, false, false, false, false, false, false, false] (by kernel_rfl) rfl rfl (hx235_0) (fun hHeld => ?_); refine with_tabW gampref05_Right.tab20 gampref05_Right.bits20 (fun HT_ HW_ => ?_)
           generalize w70.drew = w72 at HO_7 HO_230001 HL230_0 HO233 BK199 BK229 HR230_0 HB HL235_0 HR235_0 hx235_0 hHeld ⊢
           refine pr 0 103 HT_ ?_
           refine pr 1 104 HT_ ?_
           refine pr 2 105 HT_ ?_
           refine pr 4 107 HT_ ?_
           refine tr 3 106 HT_ HW_ hHeld ?_
           refine on 5 (some 108) HT_ (fun K hK => ?_)
           refine gS Try.func57 #[.int .i64 a0] ?_
           with_reducible refine (gampref05_One.calls k2 a0 t236 _ A65.out).mono ?_
           rintro e w73 ⟨v237, rfl, ho0, hb⟩
           have HS0_ := (hb.cell (World.block_lt_of_cell? _ _ (hHeld))).trans (hHeld)
           refine ⟨_, rfl, ?_⟩
           have n0_ := Aside0.mk (Kd.N_elder' (nl HO_7) (Kd.R_base ho0) hb)
           have n1_ := Aside0.mk (Kd.N_elder' (nl HO_230001) (Kd.R_base ho0) hb)
           have n2_ := Aside0.mk (Kd.V_elder' (vl HL230_0) (Kd.R_base ho0) hb)
           have n3_ := Aside0.mk (Kd.R_elder' (rl HO233) (Kd.R_base ho0) hb)
           have n4_ := Aside0.mk (Kd.V_elder' (vl HL235_0) (Kd.R_base ho0) hb)
           have n5_ := Aside0.mk (Kd.R_lower (Kd.R_new' (Kd.R_newM (M := fun k_ => (w.heap.size ≤ k_)) ho0 (below_size (bl HB)) (fun k_ h_ => h_)) (Kd.R_lt (rl HO233))) (below_size (bl HB)))
           have n6_ := Aside0.mk (blk_below (g := gb199) (o := .cells #[.int .i64 0, .slice none 0 0] 26 (0, 0)) (bk BK199) hb)
           have n7_ := Aside0.mk (blk_below (g := gb229) (o := .cells #[.int .i64 x230000_2, u230001] 26 (0, 0)) (bk BK229) hb)
           have n8_ := Aside0.mk (Kd.C_below (cl HR230_0.out) hb)
           have n9_ := Aside0.mk (Kd.C_below (cl HR235_0.out) hb)
           have n10_ := Aside0.mk (below_step (bl HB) hb)
           clear HO_7 HO_230001 HL230_0 HO233 HL235_0 BK199 BK229 HR230_0 HR235_0 HB
           have HO_7 := n0_; have HO_230001 := n1_; have HL230_0 := n2_; have HO233 := n3_; have HL235_0 := n4_; have HO238 := n5_; have BK199 := n6_; have BK229 := n7_; have HR230_0 := n8_; have HR235_0 := n9_; have HB := n10_
           clear n0_ n1_ n2_ n3_ n4_ n5_ n6_ n7_ n8_ n9_ n10_
           (try clear hb)
           (try clear hb2)
           (try clear hk)
           (try clear hi)
           (try clear ho0)
           obtain ⟨Ao74, co74, eo74⟩ := Kd.R_slice HO238.out
           (first | subst eo74 | (injection eo74 with f1_ f2_ f3_; have f4_ := f1_.symm; have f5_ := f3_.symm; clear f1_ f2_ f3_; subst f4_; subst f5_))
           refine hK.out _ _ (HS0_) (fun hHeld => ?_)
           clear hK K
           refine nr (some 108) ?_
           refine on 6 (some 109) HT_ (fun K hK => ?_)
           refine gS Try.func47 #[.slice A235_0 (rd_L1 x7_1 x13_2).length c235_0, .slice Ao74 t236.length co74] ?_
           with_reducible refine (gampref05_Same.calls k2 _ _ (rd_L1 x7_1 x13_2) _ _ t236 true _ ?side1 ?side2 ?side3 ?side4 A66.out).mono ?_
           (case side1 => exact cl (HR235_0.out))
           (case side2 => exact HC235_0.out)
           (case side3 => exact cl ((Kd.R_reads' HO238.out).2.2))
           (case side4 => exact (Kd.R_reads' HO238.out).2.1)
           rintro e w' ⟨rfl, ⟨nd, rfl⟩⟩
           refine ⟨_, rfl, ?_⟩
           refine hK.out _ _ (hHeld) (fun hHeld => ?_)
           clear hK K
           refine nr (some 109) ?_
           refine pr 7 110 HT_ ?_
           refine dn HT_ ?_
           try go_wp2
           go_roundg k2
           case measure => have := HK1.out; have := HK2.out; omega
           case rel => exact ⟨(wrap64 (x13_2 + 1)), (x230000_2), (x230001_2), (u230001), (by first | rfl | (simp; done) | (simp [*]; done)), H', ⟨by have := HK1.out; have := HK2.out; omega⟩, ⟨by (with_reducible repeat (first | apply Kd.N_alloc | apply Kd.N_drewN | apply Kd.N_drew)); exact Kd.N_mono HO_7.out (fun _ hk => (by (repeat cases ‹_ ∧ _›); (repeat' (first | assumption | apply And.intro))))⟩, ⟨by (with_reducible repeat (first | apply Kd.N_alloc | apply Kd.N_drewN | apply Kd.N_drew)); exact Kd.N_mono HO_230001.out (fun _ hk => (by (repeat cases ‹_ ∧ _›); (repeat' (first | assumption | apply And.intro))))⟩, ⟨bk BK199⟩, ⟨bk BK229⟩, ⟨bl HB⟩⟩
          ·replace c67 := Bool.eq_false_iff.mpr c67
           subst c67
           have H1 : (if x230001_2.length < 5864062014805 then (gampref05_Right.l3 k2 a0 x7_1 (wrap64 (x13_2 + 1)) x230000_2 (x230001_2 ++ [rd_L1 x7_1 x13_2])) else (none)) = some (r1, r2) := by rw [if_neg (show ¬ (false = true) by decide)] at H; exact H
           clear H
           have H := H1
           clear H1
           by_cases c75 : x230001_2.length < 5864062014805
           ·rw [if_pos c75] at H
            have LMc75 := Aside0.mk c75
            clear c75
            obtain ⟨y241, hy241⟩ : ∃ y_ : List (List Int), y_ = (x230001_2 ++ [rd_L1 x7_1 x13_2]) := ⟨_, rfl⟩
            replace H : (gampref05_Right.l3 k2 a0 x7_1 (wrap64 (x13_2 + 1)) x230000_2 y241) = some (r1, r2) := by first | (rw [hy241]; with_reducible exact H) | (have H2_ := (Option.bind_some _ _).symm.trans H; rw [hy241]; with_reducible exact H2_) | (have H2_ := (Option.bind_some _ _).symm.trans H; with_reducible exact H2_) | with_reducible exact H | (rw [hy241]; exact H) | exact H
            have Ny241 := Aside0.mk hy241
            clear hy241
            have H' := Aside0.mk H
            clear H
            obtain ⟨Ao76, co76, eo76⟩ := Kd.N_slice HO_7.out
            subst eo76
            try go_wp2
            have n0_ := Aside0.mk (Kd.N_drew HO_7.out)
            have n1_ := Aside0.mk (Kd.N_drew HO_230001.out)
            have n2_ := Aside0.mk (blk_drew BK199.out)
            have n3_ := Aside0.mk (blk_drew BK229.out)
            have n4_ := Aside0.mk (below_drew1 HB.out)
            clear HO_7 HO_230001 BK199 BK229 HB
            have HO_7 := n0_; have HO_230001 := n1_; have BK199 := n2_; have BK229 := n3_; have HB := n4_
            clear n0_ n1_ n2_ n3_ n4_
            have p230 : 0 ≤ (x13_2 : Int) := ofd
            have q230 : x13_2 < (x7_1.length : Int) := ofd
            obtain ⟨ad230, A230_0, c230_0, e230, hx230_0, hl230_0, hi230_0⟩ := at_L1 (Kd.N_reads' HO_7.out).2.2 x13_2 p230 q230
            cases e230
            obtain ⟨ce230, hce230, hMe230, hcc230⟩ := Kd.N_get HO_7.out [] x13_2 p230 (by first | exact q230 | exact ofd | (have e_ := (Kd.N_reads' HO_7.out).1; omega))
            obtain ⟨ua230_0, uc230_0, rfl, ul230_0, ge230_0⟩ := Kd.FK_slice_open hMe230
            have hv230_0 := hcc230 0 _ rfl
            rw [Nat.add_zero, show ((Kd.slice 3 (Kd.int .i64))).sz = 1 from rfl, Nat.mul_one] at hv230_0
            replace hv230_0 := Option.some.inj (hv230_0.symm.trans hx230_0)
            injection hv230_0 with hva_ hvn_ hvc_
            rw [hva_] at ge230_0
            rw [hvc_] at ul230_0
            have HL230_0 := Aside0.mk (show Kd.V (Kd.int .i64) 3 _ w.heap.size _ _ (rd_L1 x7_1 x13_2) from Kd.V_mk ul230_0 ge230_0)
            clear hva_ hvn_ hvc_ ge230_0 ul230_0 hcc230 hce230
            have HR230_0 := Aside0.mk hi230_0
            have HC230_0 := Aside0.mk hl230_0
            clear hi230_0 hl230_0
            replace p230 := eq_true p230
            replace q230 := eq_true q230
            refine start_ (n := 7) (S := fun w' => w'.cell? (ad230.add (x13_2).toNat) = some (.slice A230_0 (rd_L1 x7_1 x13_2).length c230_0)) (ds := []) #[false, false, false, false, false, false, false] (by kernel_rfl) rfl rfl (hx230_0) (fun hHeld => ?_)
            generalize wr.drew = w77 at HO_7 HO_230001 BK199 BK229 HB HL230_0 HR230_0 hx230_0 hHeld ⊢
            refine pure_ (i := 0) (N := some 92) (v := ?_) (a' := ?_) #[true, false, false, false, false, false, false] rfl rfl (by kernel_rfl) (fun _ _ _ h => h) (Or.inl ⟨by rfl, ?_⟩) ?_ ?_
            rotate_left
            ·intro w'
             go_simp
             with_reducible rfl
            rotate_left
            ·simp only [Act.put, List.setIfInBounds_toArray, List.set_cons_zero, List.set_cons_succ, i64_w, i32_w]
             rfl
            refine pure_ (i := 1) (N := some 93) (v := ?_) (a' := ?_) #[true, true, false, false, false, false, false] rfl rfl (by kernel_rfl) (fun _ _ _ h => h) (Or.inl ⟨by rfl, ?_⟩) ?_ ?_
            rotate_left
            ·intro w'
             go_simp
             with_reducible rfl
            rotate_left
            ·simp only [Act.put, List.setIfInBounds_toArray, List.set_cons_zero, List.set_cons_succ, i64_w, i32_w]
             rfl
            refine pure_ (i := 2) (N := some 94) (v := ?_) (a' := ?_) #[true, true, true, false, false, false, false] rfl rfl (by kernel_rfl) (fun _ _ _ h => h) (Or.inl ⟨by rfl, ?_⟩) ?_ ?_
            rotate_left
            ·intro w'
             go_simp
             with_reducible rfl
            rotate_left
            ·simp only [Act.put, List.setIfInBounds_toArray, List.set_cons_zero, List.set_cons_succ, i64_w, i32_w]
             rfl
            refine pure_ (i := 4) (N := some 96) (v := ?_) (a' := ?_) #[true, true, true, false, true, false, false] rfl rfl (by kernel_rfl) (fun _ _ _ h => h) (Or.inl ⟨by rfl, ?_⟩) ?_ ?_
            rotate_left
            ·intro w'
             go_simp
             with_reducible rfl
            rotate_left
            ·simp only [Act.put, List.setIfInBounds_toArray, List.set_cons_zero, List.set_cons_succ, i64_w, i32_w]
             rfl
            refine take_ (i := 3) (N := some 95) (v := ?_) (a' := ?_) #[true, true, true, true, true, false, false] rfl rfl (by kernel_rfl) (fun _ _ _ h => h) (Or.inl ⟨by rfl, ?_⟩) hHeld ?_ ?_
            rotate_left
            ·intro w' s0
             go_simp
             with_reducible rfl
            rotate_left
            ·simp only [Act.put, List.setIfInBounds_toArray, List.set_cons_zero, List.set_cons_succ, i64_w, i32_w]
             rfl
            refine one_ (i := 5) (N := some 97) #[true, true, true, true, true, true, false] rfl rfl (by kernel_rfl) (by decide) (fun K hK => ?_)
            refine gS Try.func29 #[.int .i64 a0] ?_
            with_reducible refine (gampref05_Half.calls k2 a0 t231 _ A56.out).mono ?_
            rintro e w78 ⟨v232, rfl, ho0, hb⟩
            have HS0_ := (hb.cell (World.block_lt_of_cell? _ _ (hHeld))).trans (hHeld)
            refine ⟨_, rfl, ?_⟩
            have n0_ := Aside0.mk (Kd.N_elder' (nl HO_7) (Kd.R_base ho0) hb)
            have n1_ := Aside0.mk (Kd.N_elder' (nl HO_230001) (Kd.R_base ho0) hb)
            have n2_ := Aside0.mk (Kd.V_elder' (vl HL230_0) (Kd.R_base ho0) hb)
            have n3_ := Aside0.mk (Kd.R_lower (Kd.R_newM (M := fun k_ => (w.heap.size ≤ k_)) ho0 (below_size (bl HB)) (fun k_ h_ => h_)) (below_size (bl HB)))
            have n4_ := Aside0.mk (blk_below (g := gb199) (o := .cells #[.int .i64 0, .slice none 0 0] 26 (0, 0)) (bk BK199) hb)
            have n5_ := Aside0.mk (blk_below (g := gb229) (o := .cells #[.int .i64 x230000_2, u230001] 26 (0, 0)) (bk BK229) hb)
            have n6_ := Aside0.mk (Kd.C_below (cl HR230_0.out) hb)
            have n7_ := Aside0.mk (below_step (bl HB) hb)
            clear HO_7 HO_230001 HL230_0 BK199 BK229 HR230_0 HB
            have HO_7 := n0_; have HO_230001 := n1_; have HL230_0 := n2_; have HO233 := n3_; have BK199 := n4_; have BK229 := n5_; have HR230_0 := n6_; have HB := n7_
            clear n0_ n1_ n2_ n3_ n4_ n5_ n6_ n7_
            (try clear hb)
            (try clear hb2)
            (try clear hk)
            (try clear hi)
            (try clear ho0)
            obtain ⟨Ao79, co79, eo79⟩ := Kd.R_slice HO233.out
            (first | subst eo79 | (injection eo79 with f1_ f2_ f3_; have f4_ := f1_.symm; have f5_ := f3_.symm; clear f1_ f2_ f3_; subst f4_; subst f5_))
            refine hK.out _ _ (HS0_) (fun hHeld => ?_)
            clear hK K
            refine nr (some 97) ?_
            refine one_ (i := 6) (N := some 98) #[true, true, true, true, true, true, true] rfl rfl (by kernel_rfl) (by decide) (fun K hK => ?_)
            refine gS Try.func47 #[.slice A230_0 (rd_L1 x7_1 x13_2).length c230_0, .slice Ao79 t231.length co79] ?_
            with_reducible refine (gampref05_Same.calls k2 _ _ (rd_L1 x7_1 x13_2) _ _ t231 false _ ?side1 ?side2 ?side3 ?side4 A57.out).mono ?_
            (case side1 => exact cl (HR230_0.out))
            (case side2 => exact HC230_0.out)
            (case side3 => exact cl ((Kd.R_reads' HO233.out).2.2))
            (case side4 => exact (Kd.R_reads' HO233.out).2.1)
            rintro e w' ⟨rfl, ⟨nd, rfl⟩⟩
            refine ⟨_, rfl, ?_⟩
            refine hK.out _ _ (hHeld) (fun hHeld => ?_)
            clear hK K
            refine nr (some 98) ?_
            refine done_ (by kernel_rfl) ?_
            try go_wp2
            (try (rw [drewN_self w78]; generalize hq_ : World.drewN w78 _ = w78; have n0_ : Aside0 (Kd.V (Kd.int .i64) 3 w78 w.heap.size (fun k_ => (P2_ k_ ∨ w.heap.size ≤ k_) ∧ some k_ ≠ (.slice Ao79 t231.length co79 : Value).ownBlock ∧ some k_ ≠ (u230001 : Value).ownBlock ∧ some k_ ≠ (.slice (some ad230) x7_1.length co76 : Value).ownBlock ∧ k_ ≠ gb199 ∧ k_ ≠ gb229) (.slice A230_0 (rd_L1 x7_1 x13_2).length c230_0) (rd_L1 x7_1 x13_2)) := ⟨by rw [← hq_]; exact (by (with_reducible repeat (first | apply Kd.V_alloc | apply Kd.V_drewN | apply Kd.V_drew)); exact Kd.V_mono HL230_0.out (fun _ hk => (by (repeat cases ‹_ ∧ _›); (repeat' (first | assumption | apply And.intro)))))⟩; have n1_ : Aside0 (Kd.R (Kd.int .i64) 3 w78 w.heap.size (fun k_ => (w.heap.size ≤ k_)) (.slice Ao79 t231.length co79) t231) := ⟨by rw [← hq_]; exact (by (with_reducible repeat (first | apply Kd.R_alloc | apply Kd.R_drewN | apply Kd.R_drew)); exact Kd.R_mono HO233.out (fun _ hk => hk.1))⟩; have n2_ : Aside0 (Kd.N (Kd.slice 3 (Kd.int .i64)) 22 w78 w.heap.size (fun k_ => (P2_ k_ ∨ w.heap.size ≤ k_) ∧ some k_ ≠ (.slice Ao79 t231.length co79 : Value).ownBlock ∧ some k_ ≠ (.slice (some ad230) x7_1.length co76 : Value).ownBlock ∧ k_ ≠ gb199 ∧ k_ ≠ gb229) u230001 x230001_2) := ⟨by rw [← hq_]; exact (by (with_reducible repeat (first | apply Kd.N_alloc | apply Kd.N_drewN | apply Kd.N_drew)); exact Kd.N_mono HO_230001.out (fun _ hk => (by (repeat cases ‹_ ∧ _›); (repeat' (first | assumption | apply And.intro)))))⟩; have n3_ : Aside0 (Kd.N (Kd.slice 3 (Kd.int .i64)) 22 w78 w.heap.size (fun k_ => (P2_ k_ ∨ w.heap.size ≤ k_) ∧ some k_ ≠ (.slice Ao79 t231.length co79 : Value).ownBlock ∧ some k_ ≠ (u230001 : Value).ownBlock ∧ k_ ≠ gb199 ∧ k_ ≠ gb229) (.slice (some ad230) x7_1.length co76) x7_1) := ⟨by rw [← hq_]; exact (by (with_reducible repeat (first | apply Kd.N_alloc | apply Kd.N_drewN | apply Kd.N_drew)); exact Kd.N_mono HO_7.out (fun _ hk => (by (repeat cases ‹_ ∧ _›); (repeat' (first | assumption | apply And.intro)))))⟩; have n4_ : Aside0 (w78.heap[gb199]? = some (.cells #[.int .i64 0, .slice none 0 0] 26 (0, 0))) := ⟨by rw [← hq_]; exact (bk BK199)⟩; have n5_ : Aside0 (w78.heap[gb229]? = some (.cells #[.int .i64 x230000_2, u230001] 26 (0, 0))) := ⟨by rw [← hq_]; exact (bk BK229)⟩; have n6_ : Aside0 (Below w.heap.size w w78) := ⟨by rw [← hq_]; exact (bl HB)⟩; have n7_ : Aside0 (Kd.C (Kd.int .i64) w78 A230_0 (rd_L1 x7_1 x13_2).length (rd_L1 x7_1 x13_2)) := ⟨by rw [← hq_]; exact (cl HR230_0.out)⟩; clear HL230_0 HO233 HO_230001 HO_7 BK199 BK229 HB HR230_0 hq_; have HL230_0 := n0_; have HO233 := n1_; have HO_230001 := n2_; have HO_7 := n3_; have BK199 := n4_; have BK229 := n5_; have HB := n6_; have HR230_0 := n7_; clear n0_ n1_ n2_ n3_ n4_ n5_ n6_ n7_))
            have n0_ := Aside0.mk (Kd.N_drew HO_7.out)
            have n1_ := Aside0.mk (Kd.N_drew HO_230001.out)
            have n2_ := Aside0.mk (Kd.V_drew HL230_0.out)
            have n3_ := Aside0.mk (Kd.R_drew HO233.out)
            have n4_ := Aside0.mk (blk_drew BK199.out)
            have n5_ := Aside0.mk (blk_drew BK229.out)
            have n6_ := Aside0.mk (Kd.C_drew HR230_0.out)
            have n7_ := Aside0.mk (below_drew1 HB.out)
            clear HO_7 HO_230001 HL230_0 HO233 BK199 BK229 HR230_0 HB
            have HO_7 := n0_; have HO_230001 := n1_; have HL230_0 := n2_; have HO233 := n3_; have BK199 := n4_; have BK229 := n5_; have HR230_0 := n6_; have HB := n7_
            clear n0_ n1_ n2_ n3_ n4_ n5_ n6_ n7_
            have p235 : 0 ≤ (x13_2 : Int) := ofd
            have q235 : x13_2 < (x7_1.length : Int) := ofd
            obtain ⟨ad235, A235_0, c235_0, e235, hx235_0, hl235_0, hi235_0⟩ := at_L1 (Kd.N_reads' HO_7.out).2.2 x13_2 p235 q235
            obtain rfl : ad230 = ad235 := (by injection e235)
            obtain ⟨ce235, hce235, hMe235, hcc235⟩ := Kd.N_get HO_7.out [] x13_2 p235 (by first | exact q235 | exact ofd | (have e_ := (Kd.N_reads' HO_7.out).1; omega))
            obtain ⟨ua235_0, uc235_0, rfl, ul235_0, ge235_0⟩ := Kd.FK_slice_open hMe235
            have hv235_0 := hcc235 0 _ rfl
            rw [Nat.add_zero, show ((Kd.slice 3 (Kd.int .i64))).sz = 1 from rfl, Nat.mul_one] at hv235_0
            replace hv235_0 := Option.some.inj (hv235_0.symm.trans hx235_0)
            injection hv235_0 with hva_ hvn_ hvc_
            rw [hva_] at ge235_0
            rw [hvc_] at ul235_0
            have HL235_0 := Aside0.mk (show Kd.V (Kd.int .i64) 3 _ w.heap.size _ _ (rd_L1 x7_1 x13_2) from Kd.V_mk ul235_0 ge235_0)
            clear hva_ hvn_ hvc_ ge235_0 ul235_0 hcc235 hce235
            have HR235_0 := Aside0.mk hi235_0
            have HC235_0 := Aside0.mk hl235_0
            clear hi235_0 hl235_0
            replace p235 := eq_true p235
            replace q235 := eq_true q235
            refine start_ (n := 8) (S := fun w' => w'.cell? (ad230.add (x13_2).toNat) = some (.slice A235_0 (rd_L1 x7_1 x13_2).length c235_0)) (ds := []) #[false, false, false, false, false, false, false, false] (by kernel_rfl) rfl rfl (hx235_0) (fun hHeld => ?_); refine with_tabW gampref05_Right.tab20 gampref05_Right.bits20 (fun HT_ HW_ => ?_)
            generalize w78.drew = w80 at HO_7 HO_230001 HL230_0 HO233 BK199 BK229 HR230_0 HB HL235_0 HR235_0 hx235_0 hHeld ⊢
            refine pr 0 103 HT_ ?_
            refine pr 1 104 HT_ ?_
            refine pr 2 105 HT_ ?_
            refine pr 4 107 HT_ ?_
            refine tr 3 106 HT_ HW_ hHeld ?_
            refine on 5 (some 108) HT_ (fun K hK => ?_)
            refine gS Try.func57 #[.int .i64 a0] ?_
            with_reducible refine (gampref05_One.calls k2 a0 t236 _ A65.out).mono ?_
            rintro e w81 ⟨v237, rfl, ho0, hb⟩
            have HS0_ := (hb.cell (World.block_lt_of_cell? _ _ (hHeld))).trans (hHeld)
            refine ⟨_, rfl, ?_⟩
            have n0_ := Aside0.mk (Kd.N_elder' (nl HO_7) (Kd.R_base ho0) hb)
            have n1_ := Aside0.mk (Kd.N_elder' (nl HO_230001) (Kd.R_base ho0) hb)
            have n2_ := Aside0.mk (Kd.V_elder' (vl HL230_0) (Kd.R_base ho0) hb)
            have n3_ := Aside0.mk (Kd.R_elder' (rl HO233) (Kd.R_base ho0) hb)
            have n4_ := Aside0.mk (Kd.V_elder' (vl HL235_0) (Kd.R_base ho0) hb)
            have n5_ := Aside0.mk (Kd.R_lower (Kd.R_new' (Kd.R_newM (M := fun k_ => (w.heap.size ≤ k_)) ho0 (below_size (bl HB)) (fun k_ h_ => h_)) (Kd.R_lt (rl HO233))) (below_size (bl HB)))
            have n6_ := Aside0.mk (blk_below (g := gb199) (o := .cells #[.int .i64 0, .slice none 0 0] 26 (0, 0)) (bk BK199) hb)
            have n7_ := Aside0.mk (blk_below (g := gb229) (o := .cells #[.int .i64 x230000_2, u230001] 26 (0, 0)) (bk BK229) hb)
            have n8_ := Aside0.mk (Kd.C_below (cl HR230_0.out) hb)
            have n9_ := Aside0.mk (Kd.C_below (cl HR235_0.out) hb)
            have n10_ := Aside0.mk (below_step (bl HB) hb)
            clear HO_7 HO_230001 HL230_0 HO233 HL235_0 BK199 BK229 HR230_0 HR235_0 HB
            have HO_7 := n0_; have HO_230001 := n1_; have HL230_0 := n2_; have HO233 := n3_; have HL235_0 := n4_; have HO238 := n5_; have BK199 := n6_; have BK229 := n7_; have HR230_0 := n8_; have HR235_0 := n9_; have HB := n10_
            clear n0_ n1_ n2_ n3_ n4_ n5_ n6_ n7_ n8_ n9_ n10_
            (try clear hb)
            (try clear hb2)
            (try clear hk)
            (try clear hi)
            (try clear ho0)
            obtain ⟨Ao82, co82, eo82⟩ := Kd.R_slice HO238.out
            (first | subst eo82 | (injection eo82 with f1_ f2_ f3_; have f4_ := f1_.symm; have f5_ := f3_.symm; clear f1_ f2_ f3_; subst f4_; subst f5_))
            refine hK.out _ _ (HS0_) (fun hHeld => ?_)
            clear hK K
            refine nr (some 108) ?_
            refine on 6 (some 109) HT_ (fun K hK => ?_)
            refine gS Try.func47 #[.slice A235_0 (rd_L1 x7_1 x13_2).length c235_0, .slice Ao82 t236.length co82] ?_
            with_reducible refine (gampref05_Same.calls k2 _ _ (rd_L1 x7_1 x13_2) _ _ t236 false _ ?side1 ?side2 ?side3 ?side4 A66.out).mono ?_
            (case side1 => exact cl (HR235_0.out))
            (case side2 => exact HC235_0.out)
            (case side3 => exact cl ((Kd.R_reads' HO238.out).2.2))
            (case side4 => exact (Kd.R_reads' HO238.out).2.1)
            rintro e w' ⟨rfl, ⟨nd, rfl⟩⟩
            refine ⟨_, rfl, ?_⟩
            refine hK.out _ _ (hHeld) (fun hHeld => ?_)
            clear hK K
            refine nr (some 109) ?_
            refine pr 7 110 HT_ ?_
            refine dn HT_ ?_
            try go_wp2
            (try (rw [drewN_self w81]; generalize hq_ : World.drewN w81 _ = w81; have n0_ : Aside0 (Kd.V (Kd.int .i64) 3 w81 w.heap.size (fun k_ => (P2_ k_ ∨ w.heap.size ≤ k_) ∧ some k_ ≠ (.slice Ao79 t231.length co79 : Value).ownBlock ∧ some k_ ≠ (.slice Ao82 t236.length co82 : Value).ownBlock ∧ some k_ ≠ (u230001 : Value).ownBlock ∧ some k_ ≠ (.slice (some ad230) x7_1.length co76 : Value).ownBlock ∧ k_ ≠ gb199 ∧ k_ ≠ gb229) (.slice A230_0 (rd_L1 x7_1 x13_2).length c230_0) (rd_L1 x7_1 x13_2)) := ⟨by rw [← hq_]; exact (by (with_reducible repeat (first | apply Kd.V_alloc | apply Kd.V_drewN | apply Kd.V_drew)); exact Kd.V_mono HL230_0.out (fun _ hk => (by (repeat cases ‹_ ∧ _›); (repeat' (first | assumption | apply And.intro)))))⟩; have n1_ : Aside0 (Kd.V (Kd.int .i64) 3 w81 w.heap.size (fun k_ => (P2_ k_ ∨ w.heap.size ≤ k_) ∧ some k_ ≠ (.slice Ao79 t231.length co79 : Value).ownBlock ∧ some k_ ≠ (.slice Ao82 t236.length co82 : Value).ownBlock ∧ some k_ ≠ (u230001 : Value).ownBlock ∧ some k_ ≠ (.slice (some ad230) x7_1.length co76 : Value).ownBlock ∧ k_ ≠ gb199 ∧ k_ ≠ gb229) (.slice A235_0 (rd_L1 x7_1 x13_2).length c235_0) (rd_L1 x7_1 x13_2)) := ⟨by rw [← hq_]; exact (by (with_reducible repeat (first | apply Kd.V_alloc | apply Kd.V_drewN | apply Kd.V_drew)); exact Kd.V_mono HL235_0.out (fun _ hk => (by (repeat cases ‹_ ∧ _›); (repeat' (first | assumption | apply And.intro)))))⟩; have n2_ : Aside0 (Kd.R (Kd.int .i64) 3 w81 w.heap.size (fun k_ => (w.heap.size ≤ k_) ∧ some k_ ≠ (.slice Ao82 t236.length co82 : Value).ownBlock) (.slice Ao79 t231.length co79) t231) := ⟨by rw [← hq_]; exact (by (with_reducible repeat (first | apply Kd.R_alloc | apply Kd.R_drewN | apply Kd.R_drew)); exact Kd.R_mono HO233.out (fun _ hk => (by (repeat cases ‹_ ∧ _›); (repeat' (first | assumption | apply And.intro)))))⟩; have n3_ : Aside0 (Kd.R (Kd.int .i64) 3 w81 w.heap.size (fun k_ => (w.heap.size ≤ k_) ∧ some k_ ≠ (.slice Ao79 t231.length co79 : Value).ownBlock) (.slice Ao82 t236.length co82) t236) := ⟨by rw [← hq_]; exact (by (with_reducible repeat (first | apply Kd.R_alloc | apply Kd.R_drewN | apply Kd.R_drew)); exact Kd.R_mono HO238.out (fun _ hk => (by (repeat cases ‹_ ∧ _›); (repeat' (first | assumption | apply And.intro)))))⟩; have n4_ : Aside0 (Kd.N (Kd.slice 3 (Kd.int .i64)) 22 w81 w.heap.size (fun k_ => (P2_ k_ ∨ w.heap.size ≤ k_) ∧ some k_ ≠ (.slice Ao79 t231.length co79 : Value).ownBlock ∧ some k_ ≠ (.slice Ao82 t236.length co82 : Value).ownBlock ∧ some k_ ≠ (.slice (some ad230) x7_1.length co76 : Value).ownBlock ∧ k_ ≠ gb199 ∧ k_ ≠ gb229) u230001 x230001_2) := ⟨by rw [← hq_]; exact (by (with_reducible repeat (first | apply Kd.N_alloc | apply Kd.N_drewN | apply Kd.N_drew)); exact Kd.N_mono HO_230001.out (fun _ hk => (by (repeat cases ‹_ ∧ _›); (repeat' (first | assumption | apply And.intro)))))⟩; have n5_ : Aside0 (Kd.N (Kd.slice 3 (Kd.int .i64)) 22 w81 w.heap.size (fun k_ => (P2_ k_ ∨ w.heap.size ≤ k_) ∧ some k_ ≠ (.slice Ao79 t231.length co79 : Value).ownBlock ∧ some k_ ≠ (.slice Ao82 t236.length co82 : Value).ownBlock ∧ some k_ ≠ (u230001 : Value).ownBlock ∧ k_ ≠ gb199 ∧ k_ ≠ gb229) (.slice (some ad230) x7_1.length co76) x7_1) := ⟨by rw [← hq_]; exact (by (with_reducible repeat (first | apply Kd.N_alloc | apply Kd.N_drewN | apply Kd.N_drew)); exact Kd.N_mono HO_7.out (fun _ hk => (by (repeat cases ‹_ ∧ _›); (repeat' (first | assumption | apply And.intro)))))⟩; have n6_ : Aside0 (w81.heap[gb199]? = some (.cells #[.int .i64 0, .slice none 0 0] 26 (0, 0))) := ⟨by rw [← hq_]; exact (bk BK199)⟩; have n7_ : Aside0 (w81.heap[gb229]? = some (.cells #[.int .i64 x230000_2, u230001] 26 (0, 0))) := ⟨by rw [← hq_]; exact (bk BK229)⟩; have n8_ : Aside0 (Below w.heap.size w w81) := ⟨by rw [← hq_]; exact (bl HB)⟩; have n9_ : Aside0 (Kd.C (Kd.int .i64) w81 A230_0 (rd_L1 x7_1 x13_2).length (rd_L1 x7_1 x13_2)) := ⟨by rw [← hq_]; exact (cl HR230_0.out)⟩; have n10_ : Aside0 (Kd.C (Kd.int .i64) w81 A235_0 (rd_L1 x7_1 x13_2).length (rd_L1 x7_1 x13_2)) := ⟨by rw [← hq_]; exact (cl HR235_0.out)⟩; clear HL230_0 HL235_0 HO233 HO238 HO_230001 HO_7 BK199 BK229 HB HR230_0 HR235_0 hq_; have HL230_0 := n0_; have HL235_0 := n1_; have HO233 := n2_; have HO238 := n3_; have HO_230001 := n4_; have HO_7 := n5_; have BK199 := n6_; have BK229 := n7_; have HB := n8_; have HR230_0 := n9_; have HR235_0 := n10_; clear n0_ n1_ n2_ n3_ n4_ n5_ n6_ n7_ n8_ n9_ n10_))
            have n0_ := Aside0.mk (Kd.N_drew HO_7.out)
            have n1_ := Aside0.mk (Kd.N_drew HO_230001.out)
            have n2_ := Aside0.mk (Kd.V_drew HL230_0.out)
            have n3_ := Aside0.mk (Kd.R_drew HO233.out)
            have n4_ := Aside0.mk (Kd.V_drew HL235_0.out)
            have n5_ := Aside0.mk (Kd.R_drew HO238.out)
            have n6_ := Aside0.mk (blk_drew BK199.out)
            have n7_ := Aside0.mk (blk_drew BK229.out)
            have n8_ := Aside0.mk (Kd.C_drew HR230_0.out)
            have n9_ := Aside0.mk (Kd.C_drew HR235_0.out)
            have n10_ := Aside0.mk (below_drew1 HB.out)
            clear HO_7 HO_230001 HL230_0 HO233 HL235_0 HO238 BK199 BK229 HR230_0 HR235_0 HB
            have HO_7 := n0_; have HO_230001 := n1_; have HL230_0 := n2_; have HO233 := n3_; have HL235_0 := n4_; have HO238 := n5_; have BK199 := n6_; have BK229 := n7_; have HR230_0 := n8_; have HR235_0 := n9_; have HB := n10_
            clear n0_ n1_ n2_ n3_ n4_ n5_ n6_ n7_ n8_ n9_ n10_
            have p240 : 0 ≤ (x13_2 : Int) := ofd
            have q240 : x13_2 < (x7_1.length : Int) := ofd
            obtain ⟨ad240, A240_0, c240_0, e240, hx240_0, hl240_0, hi240_0⟩ := at_L1 (Kd.N_reads' HO_7.out).2.2 x13_2 p240 q240
            obtain rfl : ad230 = ad240 := (by injection e240)
            obtain ⟨ce240, hce240, hMe240, hcc240⟩ := Kd.N_get HO_7.out [] x13_2 p240 (by first | exact q240 | exact ofd | (have e_ := (Kd.N_reads' HO_7.out).1; omega))
            obtain ⟨ua240_0, uc240_0, rfl, ul240_0, ge240_0⟩ := Kd.FK_slice_open hMe240
            have hv240_0 := hcc240 0 _ rfl
            rw [Nat.add_zero, show ((Kd.slice 3 (Kd.int .i64))).sz = 1 from rfl, Nat.mul_one] at hv240_0
            replace hv240_0 := Option.some.inj (hv240_0.symm.trans hx240_0)
            injection hv240_0 with hva_ hvn_ hvc_
            rw [hva_] at ge240_0
            rw [hvc_] at ul240_0
            have HL240_0 := Aside0.mk (show Kd.V (Kd.int .i64) 3 _ w.heap.size _ _ (rd_L1 x7_1 x13_2) from Kd.V_mk ul240_0 ge240_0)
            clear hva_ hvn_ hvc_ ge240_0 ul240_0 hcc240 hce240
            have HR240_0 := Aside0.mk hi240_0
            have HC240_0 := Aside0.mk hl240_0
            clear hi240_0 hl240_0
            replace p240 := eq_true p240
            replace q240 := eq_true q240
            refine start_ (n := 10) (S := fun w' => w'.cell? ⟨gb229, 0, none⟩ = some (.int .i64 x230000_2) ∧ w'.cell? ⟨gb229, 1, none⟩ = some (u230001) ∧ w'.cell? (ad230.add (x13_2).toNat) = some (.slice A240_0 (rd_L1 x7_1 x13_2).length c240_0)) (ds := [7, 9]) #[false, false, false, false, false, false, false, false, false, false] (by kernel_rfl) rfl rfl ⟨(blk_cell BK229.out 0).trans rfl, (blk_cell BK229.out 1).trans rfl, hx240_0⟩ (fun hHeld => ?_); refine with_tabW gampref05_Right.tab21 gampref05_Right.bits21 (fun HT_ HW_ => ?_)
            generalize w81.drew = w83 at HO_7 HO_230001 HL230_0 HO233 HL235_0 HO238 BK199 BK229 HR230_0 HR235_0 HB HL240_0 HR240_0 hx240_0 hHeld ⊢
            refine pr 0 111 HT_ ?_
            refine pr 2 113 HT_ ?_
            refine pr 3 114 HT_ ?_
            refine pr 4 115 HT_ ?_
            refine tr 1 112 HT_ HW_ hHeld ?_
            refine tr 5 116 HT_ HW_ hHeld ?_
            refine on 6 (some 117) HT_ (fun K hK => ?_)
            refine value_ (w1 := ?_) (v := ?_) (by rfl) rfl ?_ ?_
            rotate_left 2
            ·go_simp
             constructor
             ·rfl
             ·rfl
            refine hK.out _ _ ⟨(blk_cell (blk_alloc BK229.out _) 0).trans rfl, (blk_cell (blk_alloc BK229.out _) 1).trans rfl, (World.cell?_alloc_lt _ _ _ (World.block_lt_of_cell? _ _ (hHeld.2.2))).trans (hHeld.2.2)⟩ (fun hHeld => ?_)
            clear hK K
            refine nr (some 117) ?_
            refine la 7 (some 118) HT_ (fun K hK => ?_)
            refine Kd.N_append_step (Kd.slice 3 (Kd.int .i64)) (w0 := w) w.heap.size (by rfl) (.tmp 112) (.tmp 117) 24 22 (.slice none 0 0) 24 rfl Try.underlying24 info22 rfl (by decide) (by omega) u230001 x230001_2 (rd_L1 x7_1 x13_2) [.slice A240_0 (rd_L1 x7_1 x13_2).length c240_0] (fun k_ => (P2_ k_ ∨ w.heap.size ≤ k_) ∧ some k_ ≠ (.slice (some ad230) x7_1.length co76 : Value).ownBlock ∧ some k_ ≠ (.slice Ao79 t231.length co79 : Value).ownBlock ∧ some k_ ≠ (.slice Ao82 t236.length co82 : Value).ownBlock ∧ k_ ≠ gb199 ∧ k_ ≠ gb229) (fun k_ => ((fun k_ => (P2_ k_ ∨ w.heap.size ≤ k_) ∧ some k_ ≠ (.slice (some ad230) x7_1.length co76 : Value).ownBlock ∧ some k_ ≠ (.slice Ao79 t231.length co79 : Value).ownBlock ∧ some k_ ≠ (.slice Ao82 t236.length co82 : Value).ownBlock ∧ k_ ≠ gb199 ∧ k_ ≠ gb229)) k_ ∧ some k_ ≠ (u230001 : Value).ownBlock) rfl rfl ?aP (fun _ hk => hk) ?aF ?aO ?aB ?aS ?aL ?_
            (case aP => exact (Kd.FK_slice_mk (Kd.V_reads' (Kd.V_mono (ok' := (fun k_ => ((fun k_ => (P2_ k_ ∨ w.heap.size ≤ k_) ∧ some k_ ≠ (.slice (some ad230) x7_1.length co76 : Value).ownBlock ∧ some k_ ≠ (.slice Ao79 t231.length co79 : Value).ownBlock ∧ some k_ ≠ (.slice Ao82 t236.length co82 : Value).ownBlock ∧ k_ ≠ gb199 ∧ k_ ≠ gb229)) k_ ∧ some k_ ≠ (u230001 : Value).ownBlock)) (HL240_0.out) (fun k_ hk => (by (repeat cases ‹_ ∧ _›); (repeat' (first | assumption | apply And.intro)))))).2.1 (Kd.V_F (Kd.V_mono (ok' := (fun k_ => ((fun k_ => (P2_ k_ ∨ w.heap.size ≤ k_) ∧ some k_ ≠ (.slice (some ad230) x7_1.length co76 : Value).ownBlock ∧ some k_ ≠ (.slice Ao79 t231.length co79 : Value).ownBlock ∧ some k_ ≠ (.slice Ao82 t236.length co82 : Value).ownBlock ∧ k_ ≠ gb199 ∧ k_ ≠ gb229)) k_ ∧ some k_ ≠ (u230001 : Value).ownBlock)) (HL240_0.out) (fun k_ hk => (by (repeat cases ‹_ ∧ _›); (repeat' (first | assumption | apply And.intro))))))))
            (case aB => exact (bl HB))
            (case aF => exact (fun k_ hk => ⟨(.inr (Nat.le_trans (below_size (bl HB)) hk)), Kd.fresh' (Kd.N_lt (nl HO_7)) k_ hk, Kd.fresh' (Kd.R_lt (rl HO233)) k_ hk, Kd.fresh' (Kd.R_lt (rl HO238)) k_ hk, Kd.freshB (g := gb199) (o := .cells #[.int .i64 0, .slice none 0 0] 26 (0, 0)) (bk BK199) k_ hk, Kd.freshB (g := gb229) (o := .cells #[.int .i64 x230000_2, u230001] 26 (0, 0)) (bk BK229) k_ hk⟩))
            (case aO => exact (by (with_reducible repeat (first | apply Kd.N_alloc | apply Kd.N_drewN | apply Kd.N_drew)); exact Kd.N_mono HO_230001.out (fun _ hk => (by (repeat cases ‹_ ∧ _›); (repeat' (first | assumption | apply And.intro))))))
            (case aS => exact (below_size (bl HB)))
            (case aL => have := LMc75.out; omega)
            intro v242 w84 ho hb hg hat
            rw [← Ny241.out] at ho
            have n0_ := Aside0.mk (Kd.N_afterv (ok := (fun k_ => (P2_ k_ ∨ w.heap.size ≤ k_) ∧ some k_ ≠ (.slice Ao79 t231.length co79 : Value).ownBlock ∧ some k_ ≠ (.slice Ao82 t236.length co82 : Value).ownBlock ∧ k_ ≠ gb199 ∧ k_ ≠ gb229)) (by (with_reducible repeat (first | apply Kd.N_alloc | apply Kd.N_drewN | apply Kd.N_drew)); exact Kd.N_mono HO_7.out (fun _ hk => (by (repeat cases ‹_ ∧ _›); (repeat' (first | assumption | apply And.intro))))) hg hat)
            have n1_ := Aside0.mk (blk_grown (g := gb199) (o := .cells #[.int .i64 0, .slice none 0 0] 26 (0, 0)) (bk BK199) hg (Kd.N_ne HO_230001.out BK199.out (by decide)))
            have n2_ := Aside0.mk (blk_grown (g := gb229) (o := .cells #[.int .i64 x230000_2, u230001] 26 (0, 0)) (bk BK229) hg (Kd.N_ne HO_230001.out BK229.out (by decide)))
            have n3_ := Aside0.mk (Kd.V_afterv (ok := (fun k_ => (P2_ k_ ∨ w.heap.size ≤ k_) ∧ some k_ ≠ (.slice (some ad230) x7_1.length co76 : Value).ownBlock ∧ some k_ ≠ (.slice Ao79 t231.length co79 : Value).ownBlock ∧ some k_ ≠ (.slice Ao82 t236.length co82 : Value).ownBlock ∧ k_ ≠ gb199 ∧ k_ ≠ gb229)) (by (with_reducible repeat (first | apply Kd.V_alloc | apply Kd.V_drewN | apply Kd.V_drew)); exact Kd.V_mono HL230_0.out (fun _ hk => (by (repeat cases ‹_ ∧ _›); (repeat' (first | assumption | apply And.intro))))) hg hat)
            have n4_ := Aside0.mk (Kd.R_over' (rl HO233) (Kd.N_typed (nl HO_230001)) (by decide) hg)
            have n5_ := Aside0.mk (Kd.V_afterv (ok := (fun k_ => (P2_ k_ ∨ w.heap.size ≤ k_) ∧ some k_ ≠ (.slice (some ad230) x7_1.length co76 : Value).ownBlock ∧ some k_ ≠ (.slice Ao79 t231.length co79 : Value).ownBlock ∧ some k_ ≠ (.slice Ao82 t236.length co82 : Value).ownBlock ∧ k_ ≠ gb199 ∧ k_ ≠ gb229)) (by (with_reducible repeat (first | apply Kd.V_alloc | apply Kd.V_drewN | apply Kd.V_drew)); exact Kd.V_mono HL235_0.out (fun _ hk => (by (repeat cases ‹_ ∧ _›); (repeat' (first | assumption | apply And.intro))))) hg hat)
            have n6_ := Aside0.mk (Kd.R_over' (rl HO238) (Kd.N_typed (nl HO_230001)) (by decide) hg)
            have n7_ := Aside0.mk (Kd.V_afterv (ok := (fun k_ => (P2_ k_ ∨ w.heap.size ≤ k_) ∧ some k_ ≠ (.slice (some ad230) x7_1.length co76 : Value).ownBlock ∧ some k_ ≠ (.slice Ao79 t231.length co79 : Value).ownBlock ∧ some k_ ≠ (.slice Ao82 t236.length co82 : Value).ownBlock ∧ k_ ≠ gb199 ∧ k_ ≠ gb229)) (by (with_reducible repeat (first | apply Kd.V_alloc | apply Kd.V_drewN | apply Kd.V_drew)); exact Kd.V_mono HL240_0.out (fun _ hk => (by (repeat cases ‹_ ∧ _›); (repeat' (first | assumption | apply And.intro))))) hg hat)
            have n8_ := Aside0.mk (hb)
            have n9_ := Aside0.mk (ho)
            clear HO_7 BK199 BK229 HL230_0 HO233 HL235_0 HO238 HL240_0 HB HO_230001
            have HO_7 := n0_; have BK199 := n1_; have BK229 := n2_; have HL230_0 := n3_; have HO233 := n4_; have HL235_0 := n5_; have HO238 := n6_; have HL240_0 := n7_; have HB := n8_; have HO243 := n9_
            clear n0_ n1_ n2_ n3_ n4_ n5_ n6_ n7_ n8_ n9_ ho hb hg hat
            obtain ⟨Ao85, co85, eo85⟩ := Kd.N_slice HO243.out
            (first | subst eo85 | (injection eo85 with f1_ f2_ f3_; have f4_ := f1_.symm; have f5_ := f3_.symm; clear f1_ f2_ f3_; subst f4_; subst f5_))
            refine hK.out _ _ ?_
            clear hK K
            refine nr (some 118) ?_
            refine pr 8 119 HT_ ?_
            refine la 9 (none) HT_ (fun K hK => ?_)
            have hs86 : w84.cell? ⟨gb229, 1, none⟩ = some (u230001) := (blk_cell BK229.out 1).trans rfl
            have hfs86 := blk_frozen BK229.out 1
            have hns86_0 := NB199_229.out
            have hms86_0 := NB229_199.out
            refine sk ?_
            refine hK.out _ _ ?_
            clear hK K
            refine dn HT_ ?_
            try go_wp2
            go_roundg k2
            case measure => have := HK1.out; have := HK2.out; omega
            case rel => exact ⟨(wrap64 (x13_2 + 1)), (x230000_2), (y241), (.slice Ao85 y241.length co85), (by first | rfl | (simp; done) | (simp [*]; done)), H', ⟨by have := HK1.out; have := HK2.out; omega⟩, ⟨by (with_reducible repeat (first | apply Kd.N_alloc | apply Kd.N_drewN | apply Kd.N_drew)); exact Kd.N_mono (Kd.N_far (p := ⟨gb229, 1, none⟩) (Kd.N_mono HO_7.out (fun k_ hk => (⟨hk, hk.1.2.2.2.2⟩ : _ ∧ k_ ≠ gb229))) (fun _ hk => hk.2) (.slice Ao85 y241.length co85)) (fun _ hk => (by (repeat cases ‹_ ∧ _›); (repeat' (first | assumption | apply And.intro))))⟩, ⟨by (with_reducible repeat (first | apply Kd.N_alloc | apply Kd.N_drewN | apply Kd.N_drew)); exact Kd.N_mono (Kd.N_far (p := ⟨gb229, 1, none⟩) (Kd.N_mono HO243.out (fun k_ hk => (⟨hk, hk.2.2.2.2.2⟩ : _ ∧ k_ ≠ gb229))) (fun _ hk => hk.2) (.slice Ao85 y241.length co85)) (fun _ hk => (by (repeat cases ‹_ ∧ _›); (repeat' (first | assumption | apply And.intro))))⟩, ⟨by (with_reducible repeat (first | refine blk_drewN ?_ _ | refine blk_drew ?_ | refine blk_alloc ?_ _)); refine blk_far ?_ NB199_229.out _; (with_reducible repeat (first | refine blk_drewN ?_ _ | refine blk_drew ?_ | refine blk_alloc ?_ _)); exact BK199.out⟩, ⟨by (with_reducible repeat (first | refine blk_drewN ?_ _ | refine blk_drew ?_ | refine blk_alloc ?_ _)); refine blk_put (cs := #[.int .i64 x230000_2, u230001]) ?_ 1 _ rfl; (with_reducible repeat (first | refine blk_drewN ?_ _ | refine blk_drew ?_ | refine blk_alloc ?_ _)); exact BK229.out⟩, ⟨bl HB⟩⟩
           ·rw [if_neg c75] at H
            exact absurd H (by simp)
        ·rw [if_neg c55] at H
         exact absurd H (by simp)
       ·rw [if_neg c54] at H
        have c54b0 : decide (x13_2 < (x7_1.length : Int)) = false := decide_eq_false c54
        clear c54
        simp only [Option.some.injEq, Prod.mk.injEq] at H
        obtain ⟨rfl, rfl⟩ := H
        obtain ⟨Ao87, co87, eo87⟩ := Kd.N_slice HO_7.out
        subst eo87
        have hnb88 := NB229_199.out
        have hnc88 := NB199_229.out
        have hcz89_0 : wr.cell? ⟨gb229, 0, none⟩ = some (.int .i64 x230000_2) := (blk_cell BK229.out 0).trans rfl
        have hcz89_1 : wr.cell? ⟨gb229, 1, none⟩ = some (u230001) := (blk_cell BK229.out 1).trans rfl
        have hfz89_0 := blk_frozen BK229.out 0
        have hfz89_1 := blk_frozen BK229.out 1
        have hcz90_0 : wr.cell? ⟨gb199, 0, none⟩ = some (.int .i64 0) := (blk_cell BK199.out 0).trans rfl
        have hcz90_1 : wr.cell? ⟨gb199, 1, none⟩ = some (.slice none 0 0) := (blk_cell BK199.out 1).trans rfl
        have hfz90_0 := blk_frozen BK199.out 0
        have hfz90_1 := blk_frozen BK199.out 1
        obtain ⟨Ao91, co91, eo91⟩ := Kd.N_slice HO_230001.out
        subst eo91
        go_wp2
        refine bodyPost_ret (results_cell_row rfl _ _ gb199 26 #[.int .i64 x230000_2, .slice Ao91 x230001_2.length co91] (0, 0) _ rfl (by (with_reducible repeat (first | refine blk_drewN ?_ _ | refine blk_drew ?_ | refine blk_alloc ?_ _)); refine blk_put (cs := #[.int .i64 x230000_2, .slice none 0 0]) ?_ 1 _ rfl; (with_reducible repeat (first | refine blk_drewN ?_ _ | refine blk_drew ?_ | refine blk_alloc ?_ _)); refine blk_put (cs := #[.int .i64 0, .slice none 0 0]) ?_ 0 _ rfl; (with_reducible repeat (first | refine blk_drewN ?_ _ | refine blk_drew ?_ | refine blk_alloc ?_ _)); exact BK199.out) Try.underlying26 rfl (by kernel_rfl)) rfl ?_
        exact ⟨_, by first | rfl | (simp [errW_none, errW_some] <;> rfl) | (simp [*, errW_none, errW_some] <;> rfl), by (with_reducible repeat (first | apply Kd.N_alloc | apply Kd.N_drewN | apply Kd.N_drew)); exact Kd.N_mono (Kd.N_far (p := ⟨gb199, 1, none⟩) (Kd.N_far (p := ⟨gb199, 0, none⟩) (Kd.N_mono HO_230001.out (fun k_ hk => (⟨hk, hk.2.2.1⟩ : _ ∧ k_ ≠ gb199))) (fun _ hk => hk.2) (.int .i64 x230000_2)) (fun _ hk => hk.2) (.slice Ao91 x230001_2.length co91)) (fun _ hk => hk.1.1), by repeat (first | (with_reducible first | exact HB.out | apply below_alloc | apply pw_below_drewN | apply below_drew1 | refine below_set ?_ GE199.out | refine below_set ?_ GE229.out) | exact HB.out)⟩
 ·rw [if_neg c4] at H
  exact absurd H (by simp)
end Go.Proofs.Ytdldfdcedjmneaa.Lx

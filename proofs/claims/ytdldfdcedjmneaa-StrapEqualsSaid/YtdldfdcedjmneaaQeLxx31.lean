/- The declarations of Lxx31 that the claim Qe needs. -/
import Derived.Test.YtdldfdcedjmneaaQeTkP
import Derived.Test.YtdldfdcedjmneaaQeLxx7
import Derived.Test.YtdldfdcedjmneaaQeLxx30
namespace Go.Proofs.Ytdldfdcedjmneaa.Lx
open Go.RowKit Go.Proofs.Ytdldfdcedjmneaa.Own Go.Proofs.YtdldfdcedjmneaaW.PrintWords Go.Proofs.YtdldfdcedjmneaaW.PrintLast Go.Proofs.YtdldfdcedjmneaaW.PrintMore
attribute [local go_sem] max2_int min2_int max_two min_two max_three min_three max_four min_four
set_option linter.unusedVariables false
set_option linter.unusedSimpArgs false
def gampref05_Normal.T8 : Bool × List (List Nat × List Nat) := (true, [([], []), ([], []), ([1], [1]), ([], []), ([], []), ([4], [4]), ([], []), ([6], [6]), ([5, 7, 5], [5, 7]), ([8], [8]), ([3, 9, 8], [3, 9]), ([0, 2, 10, 10], [0, 2, 10]), ([11, 11, 0, 1, 2, 3, 4, 5, 6, 7, 8, 9, 10, 11], [11])])
def gampref05_Normal.B8 : List Nat := [0, 0, 2, 0, 0, 16, 0, 64, 240, 496, 1016, 2047, 4095]
theorem gampref05_Normal.tab8 : rtab .any (opsOf Try.f22 8) = gampref05_Normal.T8 := by kernel_rfl
theorem gampref05_Normal.bits8 : waitsOk gampref05_Normal.T8.2 gampref05_Normal.B8 = true := by kernel_rfl
def gampref05_Normal.T13 : Bool × List (List Nat × List Nat) := (true, [([], []), ([], []), ([1], [1]), ([2], [2]), ([], []), ([], []), ([5], [5]), ([], []), ([], []), ([7, 8], [7, 8]), ([9], [9]), ([10], [10]), ([11], [11]), ([6, 12, 6], [6, 12]), ([13], [13]), ([4, 14, 13], [4, 14]), ([0, 3, 15, 15], [0, 3, 15]), ([16, 16, 0, 1, 2, 3, 4, 5, 6, 7, 8, 9, 10, 11, 12, 13, 14, 15, 16], [16])])
def gampref05_Normal.B13 : List Nat := [0, 0, 2, 6, 0, 0, 32, 0, 0, 384, 896, 1920, 3968, 8160, 16352, 32752, 65535, 131071]
theorem gampref05_Normal.tab13 : rtab .any (opsOf Try.f22 13) = gampref05_Normal.T13 := by kernel_rfl
theorem gampref05_Normal.bits13 : waitsOk gampref05_Normal.T13.2 gampref05_Normal.B13 = true := by kernel_rfl
set_option maxHeartbeats 8000000 in
set_option maxRecDepth 100000 in
theorem gampref05_Normal.calls (k : Nat) (a0 : Int) (A1 : Option Addr) (c1 : Nat) (l1 : List Int) (r1 : Int) (r2 : List (List Int)) (w : World) (hr1 : Kd.C (Kd.int .i64) w A1 l1.length l1) (hc1 : l1.length ≤ c1) (h : gampref05_Normal.f k a0 l1 = some (r1, r2)) :
  Calls Try.prog 22 #[.int .i64 a0, .slice A1 l1.length c1] w fun e w' => ∃ v1_ : Value, e = .returned (.agg #[.int .i64 r1, v1_]) ∧ Kd.N (Kd.slice 3 (Kd.int .i64)) 22 w' w.heap.size (fun k_ => (w.heap.size ≤ k_)) v1_ r2 ∧ Below w.heap.size w w' := by
 have hu26 := Try.underlying26
 have HR1 := Aside0.mk hr1
 have HC1 := Aside0.mk hc1
 clear hr1 hc1
 have HB := Aside0.mk (Below.refl w.heap.size w)
 have H : (gampref05_Normal.l0 k a0 l1 0 0 ([] : List (List Int))) = some (r1, r2) := h
 clear h
 have H' := Aside0.mk H
 clear H
 go_enter Try.func22, Try.ntmps22
 go_wp2_with (first | ((with_reducible refine gate_dst (N := 4) rfl ?_); refine box_event ?hg (N := 4) ?hd (cs := #[.int .i64 0, .slice none 0 0]) (t := 26) ?hr ?_; (case hd => rfl); (case hg => rfl); (case hr => first | (go_simp; done) | (go_simp; rfl)); intro gb251 hg w3 hbox hb; have n0_ := Aside0.mk (below_step (bl HB) hb); have n1_ := Aside0.mk (hbox); have n2_ := Aside0.mk ((by rw [hg]; exact (below_size (bl HB)) : w.heap.size ≤ gb251)); have n3_ := Aside0.mk ((by rw [hg]; exact (below_size (bl HB)) : w.heap.size ≤ gb251)); clear HB; have HB := n0_; have BK251 := n1_; have GW251 := n2_; have GE251 := n3_; clear n0_ n1_ n2_ n3_; clear hb hbox hg) | ((with_reducible refine gate_dst (N := 5) rfl ?_); refine box_event ?hg (N := 5) ?hd (cs := #[.int .i64 0, .slice none 0 0]) (t := 26) ?hr ?_; (case hd => rfl); (case hg => rfl); (case hr => first | (go_simp; done) | (go_simp; rfl)); intro gb252 hg w4 hbox hb; have n0_ := Aside0.mk (blk_below (g := gb251) (o := .cells #[.int .i64 0, .slice none 0 0] 26 (0, 0)) (bk BK251) hb); have n1_ := Aside0.mk (below_step (bl HB) hb); have n2_ := Aside0.mk (hbox); have n3_ := Aside0.mk ((by rw [hg]; exact (below_size (bl HB)) : w.heap.size ≤ gb252)); have n4_ := Aside0.mk ((by rw [hg]; exact (below_size (bl HB)) : w.heap.size ≤ gb252)); have n5_ := Aside0.mk ((by rw [hg]; exact Nat.ne_of_lt (blk_lt (g := gb251) (o := .cells #[.int .i64 0, .slice none 0 0] 26 (0, 0)) (bk BK251)) : gb251 ≠ gb252)); have n6_ := Aside0.mk ((by rw [hg]; exact Nat.ne_of_gt (blk_lt (g := gb251) (o := .cells #[.int .i64 0, .slice none 0 0] 26 (0, 0)) (bk BK251)) : gb252 ≠ gb251)); clear BK251; clear HB; have BK251 := n0_; have HB := n1_; have BK252 := n2_; have GW252 := n3_; have GE252 := n4_; have NB251_252 := n5_; have NB252_251 := n6_; clear n0_ n1_ n2_ n3_ n4_ n5_ n6_; clear hb hbox hg; have hnb5 := NB252_251.out; have hnc5 := NB251_252.out; have hcz6_0 : w4.cell? ⟨gb252, 0, none⟩ = some (.int .i64 0) := (blk_cell BK252.out 0).trans rfl; have hcz6_1 : w4.cell? ⟨gb252, 1, none⟩ = some (.slice none 0 0) := (blk_cell BK252.out 1).trans rfl; have hfz6_0 := blk_frozen BK252.out 0; have hfz6_1 := blk_frozen BK252.out 1))
 go_loopg [6] k (fun kq v6 w' => ∃ (x6_1 : Int) (x253000_1 : Int) (x253001_1 : List (List Int)) (u253001 : Value), v6 = .int .i64 x6_1 ∧ Aside0 (gampref05_Normal.l0 kq a0 l1 x6_1 x253000_1 x253001_1 = some (r1, r2)) ∧ Aside0 (kq ≤ k) ∧ Aside0 (Kd.N (Kd.slice 3 (Kd.int .i64)) 22 w' w.heap.size (fun k_ => (w.heap.size ≤ k_) ∧ k_ ≠ gb251 ∧ k_ ≠ gb252) u253001 x253001_1) ∧ Aside0 (w'.heap[gb251]? = some (.cells #[.int .i64 0, (.slice none 0 0)] 26 (0, 0))) ∧ Aside0 (w'.heap[gb252]? = some (.cells #[.int .i64 x253000_1, u253001] 26 (0, 0))) ∧ Aside0 (Below w.heap.size w w'))
 case atStart => exact ⟨(0), (0), (([] : List (List Int))), (.slice none 0 0), (by first | rfl | (simp; done) | (simp [*]; done)), H', ⟨Nat.le_refl _⟩, ⟨by first | exact Kd.S_nil _ _ _ _ _ | exact Kd.N_nil _ _ _ _ _ | exact Kd.V_nil _ _ _ _ _ | exact Kd.Q_nil _ _ _ _ _ | exact Kd.R_nil _ _ _ _ _⟩, ⟨by (with_reducible repeat (first | refine blk_drewN ?_ _ | refine blk_drew ?_ | refine blk_alloc ?_ _)); refine blk_far ?_ NB251_252.out _; (with_reducible repeat (first | refine blk_drewN ?_ _ | refine blk_drew ?_ | refine blk_alloc ?_ _)); refine blk_far ?_ NB251_252.out _; (with_reducible repeat (first | refine blk_drewN ?_ _ | refine blk_drew ?_ | refine blk_alloc ?_ _)); exact BK251.out⟩, ⟨by (with_reducible repeat (first | refine blk_drewN ?_ _ | refine blk_drew ?_ | refine blk_alloc ?_ _)); refine blk_put (cs := #[.int .i64 0, .slice none 0 0]) ?_ 1 _ rfl; (with_reducible repeat (first | refine blk_drewN ?_ _ | refine blk_drew ?_ | refine blk_alloc ?_ _)); refine blk_put (cs := #[.int .i64 0, .slice none 0 0]) ?_ 0 _ rfl; (with_reducible repeat (first | refine blk_drewN ?_ _ | refine blk_drew ?_ | refine blk_alloc ?_ _)); exact BK252.out⟩, ⟨bl HB⟩⟩
 case round =>
  clear H'
  try clear c1
  try clear c2
  try clear p2
  try clear c5
  try clear hcz6_0
  try clear hcz6_1
  try clear hfz6_0
  try clear hfz6_1
  obtain ⟨x6_1, x253000_1, x253001_1, u253001, rfl, HA, HK1, HO_253001, BK251, BK252, HB⟩ := hrel
  cases gk with
  | zero => exact absurd HA.out (by simp [gampref05_Normal.l0])
  | succ k1 =>
   have H := HA.out
   clear HA
   simp only [gampref05_Normal.l0] at H
   by_cases c7 : x6_1 < (l1.length : Int)
   ·rw [if_pos c7] at H
    have c7b0 : decide (x6_1 < (l1.length : Int)) = true := decide_eq_true c7
    clear c7
    obtain ⟨y253, hy253⟩ : ∃ y_ : List (List Int), y_ = (([] : List (List Int))) := ⟨_, rfl⟩
    replace H : (if y253.length + x253001_1.length < 5864062014805 then ((some (y253 ++ x253001_1 : List (List Int))).bind fun y256 => (if 0 ≤ x6_1 then (if (rd l1 x6_1) > 0 then ((gampref05_One.f k1 a0).bind fun t260 => ((gampref05_Then.f k1 t260 (wrap64 ((rd l1 x6_1) - 1))).bind fun t263 => (if y256.length < 5864062014805 then ((gampref05_Right.f k1 a0 x253000_1 (y256 ++ [t263])).bind fun bt269 => (gampref05_Normal.l0 k1 a0 l1 (wrap64 (x6_1 + 1)) bt269.1 bt269.2)) else (none)))) else (gampref05_Normal.l1 k1 a0 l1 x6_1 y256 0 x253000_1 x253001_1)) else (none))) else (none)) = some (r1, r2) := by first | (rw [hy253]; with_reducible exact H) | (have H2_ := (Option.bind_some _ _).symm.trans H; rw [hy253]; with_reducible exact H2_) | (have H2_ := (Option.bind_some _ _).symm.trans H; with_reducible exact H2_) | with_reducible exact H | (rw [hy253]; exact H) | exact H
    have Ny253 := Aside0.mk hy253
    clear hy253
    by_cases c8 : y253.length + x253001_1.length < 5864062014805
    ·rw [if_pos c8] at H
     have LMc8 := Aside0.mk c8
     clear c8
     obtain ⟨y256, hy256⟩ : ∃ y_ : List (List Int), y_ = (y253 ++ x253001_1) := ⟨_, rfl⟩
     replace H : (if 0 ≤ x6_1 then (if (rd l1 x6_1) > 0 then ((gampref05_One.f k1 a0).bind fun t260 => ((gampref05_Then.f k1 t260 (wrap64 ((rd l1 x6_1) - 1))).bind fun t263 => (if y256.length < 5864062014805 then ((gampref05_Right.f k1 a0 x253000_1 (y256 ++ [t263])).bind fun bt269 => (gampref05_Normal.l0 k1 a0 l1 (wrap64 (x6_1 + 1)) bt269.1 bt269.2)) else (none)))) else (gampref05_Normal.l1 k1 a0 l1 x6_1 y256 0 x253000_1 x253001_1)) else (none)) = some (r1, r2) := by first | (rw [hy256]; with_reducible exact H) | (have H2_ := (Option.bind_some _ _).symm.trans H; rw [hy256]; with_reducible exact H2_) | (have H2_ := (Option.bind_some _ _).symm.trans H; with_reducible exact H2_) | with_reducible exact H | (rw [hy256]; exact H) | exact H
     have Ny256 := Aside0.mk hy256
     clear hy256
     by_cases c9 : 0 ≤ x6_1
     ·rw [if_pos c9] at H
      have c9b0 : decide (0 ≤ x6_1) = true := decide_eq_true c9
      clear c9
      by_cases c10 : (rd l1 x6_1) > 0
      ·rw [if_pos c10] at H
       have c10b0 : decide (0 < (rd l1 x6_1)) = true := decide_eq_true c10
       clear c10
       replace H := Option.bind_eq_some_iff.mp H
       obtain ⟨t260, A110, H⟩ := H
       replace H : ((gampref05_Then.f k1 t260 (wrap64 ((rd l1 x6_1) - 1))).bind fun t263 => (if y256.length < 5864062014805 then ((gampref05_Right.f k1 a0 x253000_1 (y256 ++ [t263])).bind fun bt269 => (gampref05_Normal.l0 k1 a0 l1 (wrap64 (x6_1 + 1)) bt269.1 bt269.2)) else (none))) = some (r1, r2) := H
       have A11 := Aside0.mk A110
       clear A110
       replace H := Option.bind_eq_some_iff.mp H
       obtain ⟨t263, A120, H⟩ := H
       replace H : (if y256.length < 5864062014805 then ((gampref05_Right.f k1 a0 x253000_1 (y256 ++ [t263])).bind fun bt269 => (gampref05_Normal.l0 k1 a0 l1 (wrap64 (x6_1 + 1)) bt269.1 bt269.2)) else (none)) = some (r1, r2) := H
       have A12 := Aside0.mk A120
       clear A120
       by_cases c13 : y256.length < 5864062014805
       ·rw [if_pos c13] at H
        have LMc13 := Aside0.mk c13
        clear c13
        obtain ⟨y266, hy266⟩ : ∃ y_ : List (List Int), y_ = (y256 ++ [t263]) := ⟨_, rfl⟩
        replace H : ((gampref05_Right.f k1 a0 x253000_1 y266).bind fun bt269 => (gampref05_Normal.l0 k1 a0 l1 (wrap64 (x6_1 + 1)) bt269.1 bt269.2)) = some (r1, r2) := by first | (rw [hy266]; with_reducible exact H) | (have H2_ := (Option.bind_some _ _).symm.trans H; rw [hy266]; with_reducible exact H2_) | (have H2_ := (Option.bind_some _ _).symm.trans H; with_reducible exact H2_) | with_reducible exact H | (rw [hy266]; exact H) | exact H
        have Ny266 := Aside0.mk hy266
        clear hy266
        replace H := Option.bind_eq_some_iff.mp H
        obtain ⟨⟨t269, t270⟩, A140, H⟩ := H
        replace H : (gampref05_Normal.l0 k1 a0 l1 (wrap64 (x6_1 + 1)) t269 t270) = some (r1, r2) := H
        have A14 := Aside0.mk A140
        clear A140
        have H' := Aside0.mk H
        clear H
        try go_wp2_with (first | ((with_reducible refine gate_dst (N := 17) rfl ?_); refine Kd.N_lit (Kd.slice 3 (Kd.int .i64)) _ 22 ?hg (N' := 17) ?hd (xs := ([] : List (List Int))) (inner := []) (ok := (fun k_ => (w.heap.size ≤ k_) ∧ some k_ ≠ (u253001 : Value).ownBlock ∧ k_ ≠ gb251 ∧ k_ ≠ gb252)) (okp := (fun k_ => (w.heap.size ≤ k_) ∧ some k_ ≠ (u253001 : Value).ownBlock ∧ k_ ≠ gb251 ∧ k_ ≠ gb252)) ?hr ?hp (fun _ hk => hk) ((show ∀ k_, wr.heap.size ≤ k_ → (fun k_ => (w.heap.size ≤ k_) ∧ some k_ ≠ (u253001 : Value).ownBlock ∧ k_ ≠ gb251 ∧ k_ ≠ gb252) k_ from fun k_ hk => ⟨(Nat.le_trans (below_size (bl HB)) hk), Kd.fresh' (Kd.N_lt (nl HO_253001)) k_ hk, Kd.freshB (g := gb251) (o := .cells #[.int .i64 0, .slice none 0 0] 26 (0, 0)) (bk BK251) k_ hk, Kd.freshB (g := gb252) (o := .cells #[.int .i64 x253000_1, u253001] 26 (0, 0)) (bk BK252) k_ hk⟩) _ (Nat.le_refl _)) (Below.refl _ _) (Nat.le_refl _) (by simp) ?_; (case hd => rfl); (case hg => rfl); (case hr => first | (go_simp; done) | (go_simp; rfl)); (case hp => exact (Reps.none _ _)); intro v254 w15 ho16 hb hg_ hnew_; clear hg_ hnew_; (first | rw [← Ny253.out] at ho16 | (simp only [Int.reduceToNat] at ho16; rw [← Ny253.out] at ho16)); have n0_ := Aside0.mk (Kd.N_elder' (nl HO_253001) (Kd.N_base ho16) hb); have n1_ := Aside0.mk (Kd.N_lower ho16 (below_size (bl HB))); have n2_ := Aside0.mk (blk_below (g := gb251) (o := .cells #[.int .i64 0, .slice none 0 0] 26 (0, 0)) (bk BK251) hb); have n3_ := Aside0.mk (blk_below (g := gb252) (o := .cells #[.int .i64 x253000_1, u253001] 26 (0, 0)) (bk BK252) hb); have n4_ := Aside0.mk (below_step (bl HB) hb); clear HO_253001; clear BK251; clear BK252; clear HB; have HO_253001 := n0_; have HO255 := n1_; have BK251 := n2_; have BK252 := n3_; have HB := n4_; clear n0_ n1_ n2_ n3_ n4_; clear hb ho16; have hnb17 := NB252_251.out; have hnc17 := NB251_252.out; have hcz18_0 : w15.cell? ⟨gb252, 0, none⟩ = some (.int .i64 x253000_1) := (blk_cell BK252.out 0).trans rfl; have hcz18_1 : w15.cell? ⟨gb252, 1, none⟩ = some (u253001) := (blk_cell BK252.out 1).trans rfl; have hfz18_0 := blk_frozen BK252.out 0; have hfz18_1 := blk_frozen BK252.out 1; obtain ⟨Ao20, co20, eo20⟩ := Kd.N_slice HO_253001.out; subst eo20) | ((with_reducible refine gate_builtin (b := .append) (xs := #[.tmp 17, .tmp 19]) rfl ?_); at_builtin; refine Kd.N_append_rows (Kd.slice 3 (Kd.int .i64)) (w0 := w) w.heap.size rfl (.tmp 17) (.tmp 19) 24 22 (.slice none 0 0) 24 rfl Try.underlying24 info22 rfl (by decide) (by omega) v254 y253 x253001_1 _ _ _ (fun k_ => (w.heap.size ≤ k_) ∧ k_ ≠ gb251 ∧ k_ ≠ gb252) (fun k_ => ((fun k_ => (w.heap.size ≤ k_) ∧ k_ ≠ gb251 ∧ k_ ≠ gb252)) k_ ∧ some k_ ≠ (v254 : Value).ownBlock) rfl rfl ?aO ?aR (fun _ hk => hk) ?aF ?aB ?aS ?aL ?_; (case aR => exact (by skip; exact Kd.N_F (Kd.N_mono (ok' := (fun k_ => ((fun k_ => (w.heap.size ≤ k_) ∧ k_ ≠ gb251 ∧ k_ ≠ gb252)) k_ ∧ some k_ ≠ (v254 : Value).ownBlock)) (HO_253001.out) (fun k_ hk => ⟨⟨hk.1.1, ⟨hk.1.2.1, hk.1.2.2⟩⟩, hk.2⟩)))); (case aB => exact (bl HB)); (case aF => exact (fun k_ hk => ⟨(Nat.le_trans (below_size (bl HB)) hk), Kd.freshB (g := gb251) (o := .cells #[.int .i64 0, .slice none 0 0] 26 (0, 0)) (bk BK251) k_ hk, Kd.freshB (g := gb252) (o := .cells #[.int .i64 x253000_1, .slice Ao20 x253001_1.length co20] 26 (0, 0)) (bk BK252) k_ hk⟩)); (case aO => exact (by (with_reducible repeat (first | apply Kd.N_alloc | apply Kd.N_drewN | apply Kd.N_drew)); exact Kd.N_mono HO255.out (fun _ hk => ⟨hk.1, ⟨hk.2.2.1, hk.2.2.2⟩⟩))); (case aS => exact (below_size (bl HB))); (case aL => have := LMc8.out; omega); intro v257 w19 ho hb hg hat; rw [← Ny256.out] at ho; have n0_ := Aside0.mk (Kd.N_afterv (ok := (fun k_ => (w.heap.size ≤ k_) ∧ k_ ≠ gb251 ∧ k_ ≠ gb252)) (nl HO_253001) hg hat); have n1_ := Aside0.mk (blk_grown (g := gb251) (o := .cells #[.int .i64 0, .slice none 0 0] 26 (0, 0)) (bk BK251) hg (Kd.N_ne HO255.out BK251.out (by decide))); have n2_ := Aside0.mk (blk_grown (g := gb252) (o := .cells #[.int .i64 x253000_1, .slice Ao20 x253001_1.length co20] 26 (0, 0)) (bk BK252) hg (Kd.N_ne HO255.out BK252.out (by decide))); have n3_ := Aside0.mk (hb); have n4_ := Aside0.mk (ho); clear HO_253001; clear BK251; clear BK252; clear HB; clear HO255; have HO_253001 := n0_; have BK251 := n1_; have BK252 := n2_; have HB := n3_; have HO258 := n4_; clear n0_ n1_ n2_ n3_ n4_; clear ho hb hg hat; have p259 : 0 ≤ (x6_1 : Int) := ofd; have q259 : x6_1 < (l1.length : Int) := ofd; obtain ⟨ad259, e259, hx259_0⟩ := Kd.at_int HR1.out x6_1 p259 q259; cases e259; replace hx259_0 := (HB.out.cell (World.block_lt_of_cell? w _ hx259_0)).trans hx259_0; replace p259 := eq_true p259; replace q259 := eq_true q259))
        have n0_ := Aside0.mk (Kd.N_drew HO_253001.out)
        have n1_ := Aside0.mk (Kd.N_drew HO258.out)
        have n2_ := Aside0.mk (blk_drew BK251.out)
        have n3_ := Aside0.mk (blk_drew BK252.out)
        have n4_ := Aside0.mk (below_drew1 HB.out)
        clear HO_253001 HO258 BK251 BK252 HB
        have HO_253001 := n0_; have HO258 := n1_; have BK251 := n2_; have BK252 := n3_; have HB := n4_
        clear n0_ n1_ n2_ n3_ n4_
        refine start_ (n := 13) (S := fun w' => w'.cell? ⟨gb252, 0, none⟩ = some (.int .i64 x253000_1) ∧ w'.cell? ⟨gb252, 1, none⟩ = some (.slice Ao20 x253001_1.length co20)) (ds := [12]) #[false, false, false, false, false, false, false, false, false, false, false, false, false] (by kernel_rfl) rfl rfl ⟨(blk_cell BK252.out 0).trans rfl, (blk_cell BK252.out 1).trans rfl⟩ (fun hHeld => ?_); refine with_tabW gampref05_Normal.tab8 gampref05_Normal.bits8 (fun HT_ HW_ => ?_)
        generalize w19.drew = w21 at HO_253001 HO258 BK251 BK252 HB hHeld ⊢
        refine pr 0 27 HT_ ?_
        refine pr 1 28 HT_ ?_
        refine pr 3 30 HT_ ?_
        refine pr 4 31 HT_ ?_
        refine pr 6 33 HT_ ?_
        refine pr 7 34 HT_ ?_
        refine tr 2 29 HT_ HW_ hHeld ?_
        refine on 5 (some 32) HT_ (fun K hK => ?_)
        refine gS Try.func57 #[.int .i64 a0] ?_
        with_reducible refine (gampref05_One.calls k1 a0 t260 _ A11.out).mono ?_
        rintro e w22 ⟨v261, rfl, ho0, hb⟩
        refine ⟨_, rfl, ?_⟩
        have n0_ := Aside0.mk (Kd.N_elder' (nl HO_253001) (Kd.R_base ho0) hb)
        have n1_ := Aside0.mk (Kd.N_elder' (nl HO258) (Kd.R_base ho0) hb)
        have n2_ := Aside0.mk (Kd.R_lower (Kd.R_newM (M := fun k_ => (w.heap.size ≤ k_)) ho0 (below_size (bl HB)) (fun k_ h_ => h_)) (below_size (bl HB)))
        have n3_ := Aside0.mk (blk_below (g := gb251) (o := .cells #[.int .i64 0, .slice none 0 0] 26 (0, 0)) (bk BK251) hb)
        have n4_ := Aside0.mk (blk_below (g := gb252) (o := .cells #[.int .i64 x253000_1, .slice Ao20 x253001_1.length co20] 26 (0, 0)) (bk BK252) hb)
        have n5_ := Aside0.mk (below_step (bl HB) hb)
        clear HO_253001 HO258 BK251 BK252 HB
        have HO_253001 := n0_; have HO258 := n1_; have HO262 := n2_; have BK251 := n3_; have BK252 := n4_; have HB := n5_
        clear n0_ n1_ n2_ n3_ n4_ n5_
        (try clear hb)
        (try clear hb2)
        (try clear hk)
        (try clear hi)
        (try clear ho0)
        obtain ⟨Ao23, co23, eo23⟩ := Kd.R_slice HO262.out
        (first | subst eo23 | (injection eo23 with f1_ f2_ f3_; have f4_ := f1_.symm; have f5_ := f3_.symm; clear f1_ f2_ f3_; subst f4_; subst f5_))
        refine hK.out _ _ ⟨(blk_cell BK252.out 0).trans rfl, (blk_cell BK252.out 1).trans rfl⟩ (fun hHeld => ?_)
        clear hK K
        refine nr (some 32) ?_
        refine on 8 (some 35) HT_ (fun K hK => ?_)
        refine gS Try.func56 #[.slice Ao23 t260.length co23, .int .i64 (wrap64 ((rd l1 x6_1) - 1))] ?_
        with_reducible refine (gampref05_Then.calls k1 _ _ t260 (wrap64 ((rd l1 x6_1) - 1)) t263 _ ?side1 ?side2 A12.out).mono ?_
        (case side1 => exact cl ((Kd.R_reads' HO262.out).2.2))
        (case side2 => exact (Kd.R_reads' HO262.out).2.1)
        rintro e w24 ⟨v264, rfl, ho0, hb⟩
        refine ⟨_, rfl, ?_⟩
        have n0_ := Aside0.mk (Kd.N_elder' (nl HO_253001) (Kd.R_base ho0) hb)
        have n1_ := Aside0.mk (Kd.N_elder' (nl HO258) (Kd.R_base ho0) hb)
        have n2_ := Aside0.mk (Kd.R_elder' (rl HO262) (Kd.R_base ho0) hb)
        have n3_ := Aside0.mk (Kd.R_lower (Kd.R_new' (Kd.R_newM (M := fun k_ => (w.heap.size ≤ k_)) ho0 (below_size (bl HB)) (fun k_ h_ => h_)) (Kd.R_lt (rl HO262))) (below_size (bl HB)))
        have n4_ := Aside0.mk (blk_below (g := gb251) (o := .cells #[.int .i64 0, .slice none 0 0] 26 (0, 0)) (bk BK251) hb)
        have n5_ := Aside0.mk (blk_below (g := gb252) (o := .cells #[.int .i64 x253000_1, .slice Ao20 x253001_1.length co20] 26 (0, 0)) (bk BK252) hb)
        have n6_ := Aside0.mk (below_step (bl HB) hb)
        clear HO_253001 HO258 HO262 BK251 BK252 HB
        have HO_253001 := n0_; have HO258 := n1_; have HO262 := n2_; have HO265 := n3_; have BK251 := n4_; have BK252 := n5_; have HB := n6_
        clear n0_ n1_ n2_ n3_ n4_ n5_ n6_
        (try clear hb)
        (try clear hb2)
        (try clear hk)
        (try clear hi)
        (try clear ho0)
        obtain ⟨Ao26, co26, eo26⟩ := Kd.R_slice HO265.out
        (first | subst eo26 | (injection eo26 with f1_ f2_ f3_; have f4_ := f1_.symm; have f5_ := f3_.symm; clear f1_ f2_ f3_; subst f4_; subst f5_))
        refine hK.out _ _ ⟨(blk_cell BK252.out 0).trans rfl, (blk_cell BK252.out 1).trans rfl⟩ (fun hHeld => ?_)
        clear hK K
        refine nr (some 35) ?_
        refine on 9 (some 36) HT_ (fun K hK => ?_)
        refine value_ (w1 := ?_) (v := ?_) (by rfl) rfl ?_ ?_
        rotate_left 2
        ·go_simp
         constructor
         ·rfl
         ·rfl
        refine hK.out _ _ ⟨(blk_cell (blk_alloc BK252.out _) 0).trans rfl, (blk_cell (blk_alloc BK252.out _) 1).trans rfl⟩ (fun hHeld => ?_)
        clear hK K
        refine nr (some 36) ?_
        refine on 10 (some 37) HT_ (fun K hK => ?_)
        refine Kd.N_append_step (Kd.slice 3 (Kd.int .i64)) (w0 := w) w.heap.size (by rfl) (.tmp 30) (.tmp 36) 24 22 (.slice none 0 0) 24 rfl Try.underlying24 info22 rfl (by decide) (by omega) v257 y256 t263 [.slice Ao26 t263.length co26] (fun k_ => (w.heap.size ≤ k_) ∧ some k_ ≠ (.slice Ao23 t260.length co23 : Value).ownBlock ∧ k_ ≠ gb251 ∧ k_ ≠ gb252) (fun k_ => ((fun k_ => (w.heap.size ≤ k_) ∧ some k_ ≠ (.slice Ao23 t260.length co23 : Value).ownBlock ∧ k_ ≠ gb251 ∧ k_ ≠ gb252)) k_ ∧ some k_ ≠ (v257 : Value).ownBlock) rfl rfl ?aP (fun _ hk => hk) ?aF ?aO ?aB ?aS ?aL ?_
        (case aP => exact (Kd.FK_slice_mk (Kd.R_reads' (Kd.R_mono (ok' := (fun k_ => ((fun k_ => (w.heap.size ≤ k_) ∧ some k_ ≠ (.slice Ao23 t260.length co23 : Value).ownBlock ∧ k_ ≠ gb251 ∧ k_ ≠ gb252)) k_ ∧ some k_ ≠ (v257 : Value).ownBlock)) (Kd.R_types (Kd.R_types (Kd.R_apart' (HO265.out) (Kd.N_typed HO258.out) (by decide)) BK251.out (by decide)) BK252.out (by decide)) (fun k_ hk => ⟨⟨hk.1.1.1.1.1, ⟨hk.1.1.1.2, ⟨hk.1.2, hk.2⟩⟩⟩, hk.1.1.2⟩))).2.1 (Kd.R_F (Kd.R_mono (ok' := (fun k_ => ((fun k_ => (w.heap.size ≤ k_) ∧ some k_ ≠ (.slice Ao23 t260.length co23 : Value).ownBlock ∧ k_ ≠ gb251 ∧ k_ ≠ gb252)) k_ ∧ some k_ ≠ (v257 : Value).ownBlock)) (Kd.R_types (Kd.R_types (Kd.R_apart' (HO265.out) (Kd.N_typed HO258.out) (by decide)) BK251.out (by decide)) BK252.out (by decide)) (fun k_ hk => ⟨⟨hk.1.1.1.1.1, ⟨hk.1.1.1.2, ⟨hk.1.2, hk.2⟩⟩⟩, hk.1.1.2⟩)))))
        (case aB => exact (bl HB))
        (case aF => exact (fun k_ hk => ⟨(Nat.le_trans (below_size (bl HB)) hk), Kd.fresh' (Kd.R_lt (rl HO262)) k_ hk, Kd.freshB (g := gb251) (o := .cells #[.int .i64 0, .slice none 0 0] 26 (0, 0)) (bk BK251) k_ hk, Kd.freshB (g := gb252) (o := .cells #[.int .i64 x253000_1, .slice Ao20 x253001_1.length co20] 26 (0, 0)) (bk BK252) k_ hk⟩))
        (case aO => exact (by (with_reducible repeat (first | apply Kd.N_alloc | apply Kd.N_drewN | apply Kd.N_drew)); exact Kd.N_mono HO258.out (fun _ hk => ⟨hk.1.1.1, ⟨hk.1.2, ⟨hk.1.1.2.1, hk.1.1.2.2⟩⟩⟩)))
        (case aS => exact (below_size (bl HB)))
        (case aL => have := LMc13.out; omega)
        intro v267 w25 ho hb hg hat
        rw [← Ny266.out] at ho
        have n0_ := Aside0.mk (Kd.N_afterv (ok := (fun k_ => (w.heap.size ≤ k_) ∧ some k_ ≠ (.slice Ao23 t260.length co23 : Value).ownBlock ∧ some k_ ≠ (.slice Ao26 t263.length co26 : Value).ownBlock ∧ k_ ≠ gb251 ∧ k_ ≠ gb252)) (by (with_reducible repeat (first | apply Kd.N_alloc | apply Kd.N_drewN | apply Kd.N_drew)); exact Kd.N_mono HO_253001.out (fun _ hk => ⟨⟨hk.1.1.1.1, ⟨hk.1.2, ⟨hk.2, ⟨hk.1.1.1.2.1, hk.1.1.1.2.2⟩⟩⟩⟩, hk.1.1.2⟩)) hg hat)
        have n1_ := Aside0.mk (blk_grown (g := gb251) (o := .cells #[.int .i64 0, .slice none 0 0] 26 (0, 0)) (bk BK251) hg (Kd.N_ne HO258.out BK251.out (by decide)))
        have n2_ := Aside0.mk (blk_grown (g := gb252) (o := .cells #[.int .i64 x253000_1, .slice Ao20 x253001_1.length co20] 26 (0, 0)) (bk BK252) hg (Kd.N_ne HO258.out BK252.out (by decide)))
        have n3_ := Aside0.mk (Kd.R_over' (rl HO262) (Kd.N_typed (nl HO258)) (by decide) hg)
        have n4_ := Aside0.mk (hb)
        have n5_ := Aside0.mk (ho)
        clear HO_253001 BK251 BK252 HO262 HB HO258 HO265
        have HO_253001 := n0_; have BK251 := n1_; have BK252 := n2_; have HO262 := n3_; have HB := n4_; have HO268 := n5_
        clear n0_ n1_ n2_ n3_ n4_ n5_ ho hb hg hat
        obtain ⟨Ao27, co27, eo27⟩ := Kd.N_slice HO268.out
        (first | subst eo27 | (injection eo27 with f1_ f2_ f3_; have f4_ := f1_.symm; have f5_ := f3_.symm; clear f1_ f2_ f3_; subst f4_; subst f5_))
        refine hK.out _ _ ⟨(blk_cell BK252.out 0).trans rfl, (blk_cell BK252.out 1).trans rfl⟩ (fun hHeld => ?_)
        clear hK K
        refine nr (some 37) ?_
        refine on 11 (some 38) HT_ (fun K hK => ?_)
        refine gS Try.func55 #[.int .i64 a0, .int .i64 x253000_1, .slice Ao27 y266.length co27] ?_
        with_reducible refine (gampref05_Right.calls k1 a0 x253000_1 (fun k_ => ((w.heap.size ≤ k_) ∧ (some k_ ≠ (.slice Ao23 t260.length co23 : Value).ownBlock ∧ (k_ ≠ gb251 ∧ k_ ≠ gb252)))) _ _ y266 t269 t270 _ ?side1 A14.out).mono ?_
        (case side1 => exact Kd.N_V (HO268.out))
        rintro e w28 ⟨v271, rfl, ho0, hb⟩
        refine ⟨_, rfl, ?_⟩
        have n0_ := Aside0.mk (Kd.N_elder' (nl HO_253001) (by first | exact Kd.N_base ho0 | exact Kd.S_base ho0 | exact Kd.R_base ho0) hb)
        have n1_ := Aside0.mk (Kd.R_below (rl HO262) hb)
        have n2_ := Aside0.mk (Kd.N_elder' (nl HO268) (by first | exact Kd.N_base ho0 | exact Kd.S_base ho0 | exact Kd.R_base ho0) hb)
        have n3_ := Aside0.mk (Kd.N_lower (Kd.N_mono (ok' := fun k_ => (w.heap.size ≤ k_) ∧ some k_ ≠ (.slice Ao23 t260.length co23 : Value).ownBlock ∧ k_ ≠ gb251 ∧ k_ ≠ gb252) ho0 (fun k_ hk_ => ⟨Or.elim hk_ (fun hs_ => hs_.1) (fun hn_ => (Nat.le_trans (below_size (bl HB)) hn_)), Or.elim hk_ (fun hs_ => hs_.2.1) (fun hn_ => (Kd.fresh' (Kd.R_lt (rl HO262)) k_ hn_)), Or.elim hk_ (fun hs_ => hs_.2.2.1) (fun hn_ => (Kd.freshB (g := gb251) (o := .cells #[.int .i64 0, .slice none 0 0] 26 (0, 0)) (bk BK251) k_ hn_)), Or.elim hk_ (fun hs_ => hs_.2.2.2) (fun hn_ => (Kd.freshB (g := gb252) (o := .cells #[.int .i64 x253000_1, .slice Ao20 x253001_1.length co20] 26 (0, 0)) (bk BK252) k_ hn_))⟩)) (below_size (bl HB)))
        have n4_ := Aside0.mk (blk_below (g := gb251) (o := .cells #[.int .i64 0, .slice none 0 0] 26 (0, 0)) (bk BK251) hb)
        have n5_ := Aside0.mk (blk_below (g := gb252) (o := .cells #[.int .i64 x253000_1, .slice Ao20 x253001_1.length co20] 26 (0, 0)) (bk BK252) hb)
        have n6_ := Aside0.mk (below_step (bl HB) hb)
        clear HO_253001 HO262 HO268 BK251 BK252 HB
        have HO_253001 := n0_; have HO262 := n1_; have HO268 := n2_; have HO272 := n3_; have BK251 := n4_; have BK252 := n5_; have HB := n6_
        clear n0_ n1_ n2_ n3_ n4_ n5_ n6_
        (try clear hb)
        (try clear hb2)
        (try clear hk)
        (try clear hi)
        (try clear ho0)
        obtain ⟨Ao30, co30, eo30⟩ := Kd.N_slice HO272.out
        (first | subst eo30 | (injection eo30 with f1_ f2_ f3_; have f4_ := f1_.symm; have f5_ := f3_.symm; clear f1_ f2_ f3_; subst f4_; subst f5_))
        refine hK.out _ _ ⟨(blk_cell BK252.out 0).trans rfl, (blk_cell BK252.out 1).trans rfl⟩ (fun hHeld => ?_)
        clear hK K
        refine nr (some 38) ?_
        refine la 12 (none) HT_ (fun K hK => ?_)
        have hs29 : w28.cell? ⟨gb252, 0, none⟩ = some (.int .i64 x253000_1) := (blk_cell BK252.out 0).trans rfl
        have hfs29 := blk_frozen BK252.out 0
        have hns29_0 := NB251_252.out
        have hms29_0 := NB252_251.out
        have hs31 : w28.cell? ⟨gb252, 1, none⟩ = some (.slice Ao20 x253001_1.length co20) := (blk_cell BK252.out 1).trans rfl
        have hfs31 := blk_frozen BK252.out 1
        have hns31_0 := NB251_252.out
        have hms31_0 := NB252_251.out
        refine sk ?_
        refine hK.out _ _ ?_
        clear hK K
        refine dn HT_ ?_
        try go_wp2
        go_roundg k1
        case measure => have := HK1.out; omega
        case rel => exact ⟨(wrap64 (x6_1 + 1)), (t269), (t270), (.slice Ao30 t270.length co30), (by first | rfl | (simp; done) | (simp [*]; done)), H', ⟨by have := HK1.out; omega⟩, ⟨by (with_reducible repeat (first | apply Kd.N_alloc | apply Kd.N_drewN | apply Kd.N_drew)); exact Kd.N_mono (Kd.N_far (p := ⟨gb252, 1, none⟩) (Kd.N_far (p := ⟨gb252, 0, none⟩) (Kd.N_mono HO272.out (fun k_ hk => (⟨hk, hk.2.2.2⟩ : _ ∧ k_ ≠ gb252))) (fun _ hk => hk.2) (.int .i64 t269)) (fun _ hk => hk.2) (.slice Ao30 t270.length co30)) (fun _ hk => ⟨hk.1.1, ⟨hk.1.2.2.1, hk.1.2.2.2⟩⟩)⟩, ⟨by (with_reducible repeat (first | refine blk_drewN ?_ _ | refine blk_drew ?_ | refine blk_alloc ?_ _)); refine blk_far ?_ NB251_252.out _; (with_reducible repeat (first | refine blk_drewN ?_ _ | refine blk_drew ?_ | refine blk_alloc ?_ _)); refine blk_far ?_ NB251_252.out _; (with_reducible repeat (first | refine blk_drewN ?_ _ | refine blk_drew ?_ | refine blk_alloc ?_ _)); exact BK251.out⟩, ⟨by (with_reducible repeat (first | refine blk_drewN ?_ _ | refine blk_drew ?_ | refine blk_alloc ?_ _)); refine blk_put (cs := #[.int .i64 t269, .slice Ao20 x253001_1.length co20]) ?_ 1 _ rfl; (with_reducible repeat (first | refine blk_drewN ?_ _ | refine blk_drew ?_ | refine blk_alloc ?_ _)); refine blk_put (cs := #[.int .i64 x253000_1, .slice Ao20 x253001_1.length co20]) ?_ 0 _ rfl; (with_reducible repeat (first | refine blk_drewN ?_ _ | refine blk_drew ?_ | refine blk_alloc ?_ _)); exact BK252.out⟩, ⟨bl HB⟩⟩
       ·rw [if_neg c13] at H
        exact absurd H (by simp)
      ·rw [if_neg c10] at H
       have c10b0 : decide (0 < (rd l1 x6_1)) = false := decide_eq_false c10
       clear c10
       have H' := Aside0.mk H
       clear H
       go_wp2_with (first | ((with_reducible refine gate_dst (N := 17) rfl ?_); refine Kd.N_lit (Kd.slice 3 (Kd.int .i64)) _ 22 ?hg (N' := 17) ?hd (xs := ([] : List (List Int))) (inner := []) (ok := (fun k_ => (w.heap.size ≤ k_) ∧ some k_ ≠ (u253001 : Value).ownBlock ∧ k_ ≠ gb251 ∧ k_ ≠ gb252)) (okp := (fun k_ => (w.heap.size ≤ k_) ∧ some k_ ≠ (u253001 : Value).ownBlock ∧ k_ ≠ gb251 ∧ k_ ≠ gb252)) ?hr ?hp (fun _ hk => hk) ((show ∀ k_, wr.heap.size ≤ k_ → (fun k_ => (w.heap.size ≤ k_) ∧ some k_ ≠ (u253001 : Value).ownBlock ∧ k_ ≠ gb251 ∧ k_ ≠ gb252) k_ from fun k_ hk => ⟨(Nat.le_trans (below_size (bl HB)) hk), Kd.fresh' (Kd.N_lt (nl HO_253001)) k_ hk, Kd.freshB (g := gb251) (o := .cells #[.int .i64 0, .slice none 0 0] 26 (0, 0)) (bk BK251) k_ hk, Kd.freshB (g := gb252) (o := .cells #[.int .i64 x253000_1, u253001] 26 (0, 0)) (bk BK252) k_ hk⟩) _ (Nat.le_refl _)) (Below.refl _ _) (Nat.le_refl _) (by simp) ?_; (case hd => rfl); (case hg => rfl); (case hr => first | (go_simp; done) | (go_simp; rfl)); (case hp => exact (Reps.none _ _)); intro v254 w32 ho33 hb hg_ hnew_; clear hg_ hnew_; (first | rw [← Ny253.out] at ho33 | (simp only [Int.reduceToNat] at ho33; rw [← Ny253.out] at ho33)); have n0_ := Aside0.mk (Kd.N_elder' (nl HO_253001) (Kd.N_base ho33) hb); have n1_ := Aside0.mk (Kd.N_lower ho33 (below_size (bl HB))); have n2_ := Aside0.mk (blk_below (g := gb251) (o := .cells #[.int .i64 0, .slice none 0 0] 26 (0, 0)) (bk BK251) hb); have n3_ := Aside0.mk (blk_below (g := gb252) (o := .cells #[.int .i64 x253000_1, u253001] 26 (0, 0)) (bk BK252) hb); have n4_ := Aside0.mk (below_step (bl HB) hb); clear HO_253001; clear BK251; clear BK252; clear HB; have HO_253001 := n0_; have HO255 := n1_; have BK251 := n2_; have BK252 := n3_; have HB := n4_; clear n0_ n1_ n2_ n3_ n4_; clear hb ho33; have hnb34 := NB252_251.out; have hnc34 := NB251_252.out; have hcz35_0 : w32.cell? ⟨gb252, 0, none⟩ = some (.int .i64 x253000_1) := (blk_cell BK252.out 0).trans rfl; have hcz35_1 : w32.cell? ⟨gb252, 1, none⟩ = some (u253001) := (blk_cell BK252.out 1).trans rfl; have hfz35_0 := blk_frozen BK252.out 0; have hfz35_1 := blk_frozen BK252.out 1; obtain ⟨Ao37, co37, eo37⟩ := Kd.N_slice HO_253001.out; subst eo37) | ((with_reducible refine gate_builtin (b := .append) (xs := #[.tmp 17, .tmp 19]) rfl ?_); at_builtin; refine Kd.N_append_rows (Kd.slice 3 (Kd.int .i64)) (w0 := w) w.heap.size rfl (.tmp 17) (.tmp 19) 24 22 (.slice none 0 0) 24 rfl Try.underlying24 info22 rfl (by decide) (by omega) v254 y253 x253001_1 _ _ _ (fun k_ => (w.heap.size ≤ k_) ∧ k_ ≠ gb251 ∧ k_ ≠ gb252) (fun k_ => ((fun k_ => (w.heap.size ≤ k_) ∧ k_ ≠ gb251 ∧ k_ ≠ gb252)) k_ ∧ some k_ ≠ (v254 : Value).ownBlock) rfl rfl ?aO ?aR (fun _ hk => hk) ?aF ?aB ?aS ?aL ?_; (case aR => exact (by skip; exact Kd.N_F (Kd.N_mono (ok' := (fun k_ => ((fun k_ => (w.heap.size ≤ k_) ∧ k_ ≠ gb251 ∧ k_ ≠ gb252)) k_ ∧ some k_ ≠ (v254 : Value).ownBlock)) (HO_253001.out) (fun k_ hk => ⟨⟨hk.1.1, ⟨hk.1.2.1, hk.1.2.2⟩⟩, hk.2⟩)))); (case aB => exact (bl HB)); (case aF => exact (fun k_ hk => ⟨(Nat.le_trans (below_size (bl HB)) hk), Kd.freshB (g := gb251) (o := .cells #[.int .i64 0, .slice none 0 0] 26 (0, 0)) (bk BK251) k_ hk, Kd.freshB (g := gb252) (o := .cells #[.int .i64 x253000_1, .slice Ao37 x253001_1.length co37] 26 (0, 0)) (bk BK252) k_ hk⟩)); (case aO => exact (by (with_reducible repeat (first | apply Kd.N_alloc | apply Kd.N_drewN | apply Kd.N_drew)); exact Kd.N_mono HO255.out (fun _ hk => ⟨hk.1, ⟨hk.2.2.1, hk.2.2.2⟩⟩))); (case aS => exact (below_size (bl HB))); (case aL => have := LMc8.out; omega); intro v257 w36 ho hb hg hat; rw [← Ny256.out] at ho; have n0_ := Aside0.mk (Kd.N_afterv (ok := (fun k_ => (w.heap.size ≤ k_) ∧ k_ ≠ gb251 ∧ k_ ≠ gb252)) (nl HO_253001) hg hat); have n1_ := Aside0.mk (blk_grown (g := gb251) (o := .cells #[.int .i64 0, .slice none 0 0] 26 (0, 0)) (bk BK251) hg (Kd.N_ne HO255.out BK251.out (by decide))); have n2_ := Aside0.mk (blk_grown (g := gb252) (o := .cells #[.int .i64 x253000_1, .slice Ao37 x253001_1.length co37] 26 (0, 0)) (bk BK252) hg (Kd.N_ne HO255.out BK252.out (by decide))); have n3_ := Aside0.mk (hb); have n4_ := Aside0.mk (ho); clear HO_253001; clear BK251; clear BK252; clear HB; clear HO255; have HO_253001 := n0_; have BK251 := n1_; have BK252 := n2_; have HB := n3_; have HO258 := n4_; clear n0_ n1_ n2_ n3_ n4_; clear ho hb hg hat; have p259 : 0 ≤ (x6_1 : Int) := ofd; have q259 : x6_1 < (l1.length : Int) := ofd; obtain ⟨ad259, e259, hx259_0⟩ := Kd.at_int HR1.out x6_1 p259 q259; cases e259; replace hx259_0 := (HB.out.cell (World.block_lt_of_cell? w _ hx259_0)).trans hx259_0; replace p259 := eq_true p259; replace q259 := eq_true q259))
       go_loopg [9] k1 (fun kq v9 w' => ∃ (x7_2 : List (List Int)) (x9_2 : Int), v9 = .int .i64 x9_2 ∧ Aside0 (gampref05_Normal.l1 kq a0 l1 x6_1 x7_2 x9_2 x253000_1 x253001_1 = some (r1, r2)) ∧ Aside0 (kq ≤ k1) ∧ Aside0 (Kd.N (Kd.slice 3 (Kd.int .i64)) 22 w' w.heap.size (fun k_ => (w.heap.size ≤ k_) ∧ k_ ≠ gb251 ∧ k_ ≠ gb252) v257 x7_2) ∧ Aside0 (Kd.N (Kd.slice 3 (Kd.int .i64)) 22 w' w.heap.size (fun k_ => (w.heap.size ≤ k_) ∧ some k_ ≠ (v257 : Value).ownBlock ∧ k_ ≠ gb251 ∧ k_ ≠ gb252) (.slice Ao37 x253001_1.length co37) x253001_1) ∧ Aside0 (w'.heap[gb251]? = some (.cells #[.int .i64 0, (.slice none 0 0)] 26 (0, 0))) ∧ Aside0 (w'.heap[gb252]? = some (.cells #[.int .i64 x253000_1, (.slice Ao37 x253001_1.length co37)] 26 (0, 0))) ∧ Aside0 (Below w.heap.size w w'))
       case atStart => exact ⟨(y256), (0), (by first | rfl | (simp; done) | (simp [*]; done)), H', ⟨Nat.le_refl _⟩, ⟨nl HO258⟩, ⟨by (with_reducible repeat (first | apply Kd.N_alloc | apply Kd.N_drewN | apply Kd.N_drew)); exact Kd.N_mono HO_253001.out (fun _ hk => ⟨hk.1.1, ⟨hk.2, ⟨hk.1.2.1, hk.1.2.2⟩⟩⟩)⟩, ⟨bk BK251⟩, ⟨bk BK252⟩, ⟨bl HB⟩⟩
       case round =>
        clear H'
        try clear c1
        try clear c2
        try clear p2
        try clear q2
        try clear hx2
        try clear c3
        try clear c5
        try clear p6
        try clear c7
        try clear c7b0
        try clear c8
        try clear c9
        try clear c9b0
        try clear c10
        try clear c10b0
        try clear c13
        try clear c17
        try clear c22
        try clear p25
        try clear q25
        try clear hx25
        try clear c34
        try clear hcz18_0
        try clear hcz18_1
        try clear hcz35_0
        try clear hcz35_1
        try clear hcz6_0
        try clear hcz6_1
        try clear hfz18_0
        try clear hfz18_1
        try clear hfz35_0
        try clear hfz35_1
        try clear hfz6_0
        try clear hfz6_1
        try clear hx259_0
        try clear p2
        try clear p259
        try clear q259
        obtain ⟨x7_2, x9_2, rfl, HA, HK2, HO_7, HO_253001, BK251, BK252, HB⟩ := hrel
        cases gk with
        | zero => exact absurd HA.out (by simp [gampref05_Normal.l1])
        | succ k2 =>
         have H := HA.out
         clear HA
         simp only [gampref05_Normal.l1] at H
         by_cases c38 : x9_2 < (x7_2.length : Int)
         ·rw [if_pos c38] at H
          have c38b0 : decide (x9_2 < (x7_2.length : Int)) = true := decide_eq_true c38
          clear c38
          by_cases c39 : 0 ≤ x9_2
          ·rw [if_pos c39] at H
           have c39b0 : decide (0 ≤ x9_2) = true := decide_eq_true c39
           clear c39
           replace H := Option.bind_eq_some_iff.mp H
           obtain ⟨t274, A400, H⟩ := H
           replace H : (gampref05_Normal.l1 k2 a0 l1 x6_1 (x7_2.set (x9_2 : Int).toNat t274) (wrap64 (x9_2 + 1)) x253000_1 x253001_1) = some (r1, r2) := H
           have A40 := Aside0.mk A400
           clear A400
           obtain ⟨y277, hy277⟩ : ∃ y_ : List (List Int), y_ = (x7_2.set (x9_2 : Int).toNat t274) := ⟨_, rfl⟩
           replace H : (gampref05_Normal.l1 k2 a0 l1 x6_1 y277 (wrap64 (x9_2 + 1)) x253000_1 x253001_1) = some (r1, r2) := by first | (rw [hy277]; with_reducible exact H) | (have H2_ := (Option.bind_some _ _).symm.trans H; rw [hy277]; with_reducible exact H2_) | (have H2_ := (Option.bind_some _ _).symm.trans H; with_reducible exact H2_) | with_reducible exact H | (rw [hy277]; exact H) | exact H
           have Ny277 := Aside0.mk hy277
           clear hy277
           have H' := Aside0.mk H
           clear H
           obtain ⟨Ao42, co42, eo42⟩ := Kd.N_slice HO_7.out
           subst eo42
           have p273 : 0 ≤ (x9_2 : Int) := ofd
           have q273 : x9_2 < (x7_2.length : Int) := ofd
           obtain ⟨ad273, A273_0, c273_0, e273, hx273_0, hl273_0, hi273_0⟩ := at_L1 (Kd.N_reads' HO_7.out).2.2 x9_2 p273 q273
           cases e273
           obtain ⟨ce273, hce273, hMe273, hcc273⟩ := Kd.N_get HO_7.out [] x9_2 p273 (by first | exact q273 | exact ofd | (have e_ := (Kd.N_reads' HO_7.out).1; omega))
           obtain ⟨ua273_0, uc273_0, rfl, ul273_0, ge273_0⟩ := Kd.FK_slice_open hMe273
           have hv273_0 := hcc273 0 _ rfl
           rw [Nat.add_zero, show ((Kd.slice 3 (Kd.int .i64))).sz = 1 from rfl, Nat.mul_one] at hv273_0
           replace hv273_0 := Option.some.inj (hv273_0.symm.trans hx273_0)
           injection hv273_0 with hva_ hvn_ hvc_
           rw [hva_] at ge273_0
           rw [hvc_] at ul273_0
           have HL273_0 := Aside0.mk (show Kd.V (Kd.int .i64) 3 _ w.heap.size _ _ (rd_L1 x7_2 x9_2) from Kd.V_mk ul273_0 ge273_0)
           clear hva_ hvn_ hvc_ ge273_0 ul273_0 hcc273 hce273
           have HR273_0 := Aside0.mk hi273_0
           have HC273_0 := Aside0.mk hl273_0
           clear hi273_0 hl273_0
           replace p273 := eq_true p273
           replace q273 := eq_true q273
           go_wp2_with (first | ((with_reducible refine gate_callee (f := 58) rfl ?_); refine gL 51 Try.func58 #[.slice A273_0 (rd_L1 x7_2 x9_2).length c273_0] ?_; (with_reducible refine (gampref05_mirrored.calls k2 _ _ (rd_L1 x7_2 x9_2) t274 _ ?side1 ?side2 A40.out).mono ?_); (case side1 => exact cl (HR273_0.out)); (case side2 => exact HC273_0.out); rintro e w43 ⟨v275, rfl, ho0, hb⟩; refine ⟨_, rfl, ?_⟩; have n0_ := Aside0.mk (Kd.N_elder' (nl HO_7) (Kd.R_base ho0) hb); have n1_ := Aside0.mk (Kd.N_elder' (nl HO_253001) (Kd.R_base ho0) hb); have n2_ := Aside0.mk (Kd.V_elder' (vl HL273_0) (Kd.R_base ho0) hb); have n3_ := Aside0.mk (Kd.R_lower (Kd.R_newM (M := fun k_ => (w.heap.size ≤ k_)) ho0 (below_size (bl HB)) (fun k_ h_ => h_)) (below_size (bl HB))); have n4_ := Aside0.mk (blk_below (g := gb251) (o := .cells #[.int .i64 0, .slice none 0 0] 26 (0, 0)) (bk BK251) hb); have n5_ := Aside0.mk (blk_below (g := gb252) (o := .cells #[.int .i64 x253000_1, .slice Ao37 x253001_1.length co37] 26 (0, 0)) (bk BK252) hb); have n6_ := Aside0.mk (Kd.C_below (cl HR273_0.out) hb); have n7_ := Aside0.mk (below_step (bl HB) hb); clear HO_7; clear HO_253001; clear HL273_0; clear BK251; clear BK252; clear HR273_0; clear HB; have HO_7 := n0_; have HO_253001 := n1_; have HL273_0 := n2_; have HO276 := n3_; have BK251 := n4_; have BK252 := n5_; have HR273_0 := n6_; have HB := n7_; clear n0_ n1_ n2_ n3_ n4_ n5_ n6_ n7_; (try clear hb); (try clear hb2); (try clear hk); (try clear hi); (try clear ho0); obtain ⟨A275, c275, rfl⟩ := Kd.R_slice HO276.out; have p41 : 0 ≤ (x9_2 : Int) := ofd; have q41 : (x9_2 : Int) < ((x7_2.length : Int) : Int) := ofd; obtain ⟨go41, co41, eo41, gb41, gl41, cl41, HG41⟩ := Kd.N_form HO_7.out (by omega); (first | cases eo41 | (injection eo41 with ea_ en_ ec_; (first | subst ea_ | (injection ea_ with ea_; subst ea_)); subst ec_; clear en_)); have GB41 := Aside0.mk gb41; have GG41 := Aside0.mk HG41; clear gb41 gl41 HG41; (first | simp only [add_plain] at hx273_0 | skip); obtain ⟨ce41, hcl41, hM41, hcc41, hfr41⟩ := Kd.N_elem HO_7.out [] (x9_2 : Int) p41 q41; obtain ⟨ua41_0, uc41_0, rfl, ul41_0, ge41_0⟩ := Kd.FK_slice_open hM41; have hx41_0 := hcc41 0 _ rfl; have hf41_0 := hfr41 0; (try simp only [show ((Kd.slice 3 (Kd.int .i64))).sz = 1 from rfl, Nat.mul_one, Nat.add_zero] at hx41_0); (try simp only [show ((Kd.slice 3 (Kd.int .i64))).sz = 1 from rfl, Nat.mul_one, Nat.add_zero] at hf41_0); clear hcl41 hcc41 hfr41 hM41; replace p41 := eq_true p41; replace q41 := eq_true q41; have n_ := Aside0.mk (Kd.N_mono (ok' := (fun k_ => (w.heap.size ≤ k_) ∧ some k_ ≠ (.slice A275 t274.length c275 : Value).ownBlock ∧ k_ ≠ gb251 ∧ k_ ≠ gb252)) HO_7.out (fun k_ hk => ⟨hk.1.1, ⟨hk.2, ⟨hk.1.2.1, hk.1.2.2⟩⟩⟩)); clear HO_7; have HO_7 := n_; clear n_; have HX44 := Aside0.mk (show Kd.N (Kd.slice 3 (Kd.int .i64)) 22 w43 w.heap.size (fun k_ => (w.heap.size ≤ k_) ∧ k_ ≠ gb251 ∧ k_ ≠ gb252) (.slice (some ⟨go41, 0, none⟩) x7_2.length co42) x7_2 from (by (with_reducible repeat (first | apply Kd.N_alloc | apply Kd.N_drewN | apply Kd.N_drew)); exact Kd.N_mono HO_7.out (fun _ hk => ⟨hk.1, ⟨hk.2.2.1, hk.2.2.2⟩⟩))); obtain ⟨ce44, hcl44, hM44, hcc44, hfr44⟩ := Kd.N_elem HX44.out [] (x9_2 : Int) (ofd) (by have h_ : (x9_2 : Int) < ((x7_2.length : Int) : Int) := ofd; first | exact h_ | (have e_ := (Kd.N_reads' HO_7.out).1; omega) | simpa using h_); obtain ⟨ua44_0, uc44_0, rfl, ul44_0, ge44_0⟩ := Kd.FK_slice_open hM44; have HP44 := Kd.N_seg HX44.out (x9_2 : Int) (ofd) (by have h_ : (x9_2 : Int) < ((x7_2.length : Int) : Int) := ofd; first | exact h_ | (have e_ := (Kd.N_reads' HO_7.out).1; omega) | simpa using h_) (seg := [.slice A275 t274.length c275]) (j := 0) hcl44 hcc44 (show 1 ≤ 1 from by decide) (x' := t274) (Kd.FK_slice_mk (Kd.R_reads' (Kd.R_mono (ok' := (fun k_ => ((fun k_ => (w.heap.size ≤ k_) ∧ k_ ≠ gb251 ∧ k_ ≠ gb252)) k_ ∧ k_ ≠ go41)) (Kd.R_types (Kd.R_types (Kd.R_apart' (HO276.out) (Kd.N_typed HO_7.out) (by decide)) BK251.out (by decide)) BK252.out (by decide)) (fun k_ hk => ⟨⟨hk.1.1.1.1, ⟨hk.1.2, hk.2⟩⟩, fun e_ => (hk.1.1.2) (by rw [e_]; rfl)⟩))).2.1 (Kd.R_F (Kd.R_mono (ok' := (fun k_ => ((fun k_ => (w.heap.size ≤ k_) ∧ k_ ≠ gb251 ∧ k_ ≠ gb252)) k_ ∧ k_ ≠ go41)) (Kd.R_types (Kd.R_types (Kd.R_apart' (HO276.out) (Kd.N_typed HO_7.out) (by decide)) BK251.out (by decide)) BK252.out (by decide)) (fun k_ hk => ⟨⟨hk.1.1.1.1, ⟨hk.1.2, hk.2⟩⟩, fun e_ => (hk.1.1.2) (by rw [e_]; rfl)⟩)))) (fun _ hk => hk); have hx44_0 := hcc44 0 _ rfl; (try simp only [show ((Kd.slice 3 (Kd.int .i64))).sz = 1 from rfl, Nat.mul_one, Nat.add_zero] at hx44_0); have hf44_0 := hfr44 0; (try simp only [show ((Kd.slice 3 (Kd.int .i64))).sz = 1 from rfl, Nat.mul_one, Nat.add_zero] at hf44_0); clear hcl44 hcc44 hfr44 hM44; (try simp only [show ((Kd.slice 3 (Kd.int .i64))).sz = 1 from rfl, Nat.mul_one, Nat.add_zero] at HP44); (try simp only [show ((Kd.slice 3 (Kd.int .i64))).sz = 1 from rfl, Nat.mul_one, Nat.add_zero] at HP44)) | ((with_reducible refine gate_store (t := 22) (p := 52) rfl ?_); refine store_event (t := 22) (p := 52) (v := ?vo_w45) (w1 := (w43.setCell ⟨go41, (x9_2 : Int).toNat, none⟩ (.slice A275 t274.length c275))) ?hg ?ho ?hn ?hr ?_; (case ho => rfl); (case hg => rfl); (case hn => rfl); (case hr => first | (go_simp; done) | (go_simp; rfl)); intro w45 hw; have hg : w43.grownBy w45 (some go41) := (by rw [hw]; exact HP44.2); have hp_ : Kd.N (Kd.slice 3 (Kd.int .i64)) 22 w45 w.heap.size (fun k_ => (w.heap.size ≤ k_) ∧ k_ ≠ gb251 ∧ k_ ≠ gb252) (.slice (some ⟨go41, 0, none⟩) x7_2.length co42) y277 := (by rw [hw, Ny277.out]; exact HP44.1); clear HP44; have n0_ := Aside0.mk (hp_); have n1_ := Aside0.mk (Kd.N_afterv (v := (.slice (some ⟨go41, 0, none⟩) x7_2.length co42)) (v1 := (.slice (some ⟨go41, 0, none⟩) x7_2.length co42)) (ok := (fun k_ => (w.heap.size ≤ k_) ∧ some k_ ≠ (.slice A275 t274.length c275 : Value).ownBlock ∧ k_ ≠ gb251 ∧ k_ ≠ gb252)) (by (with_reducible repeat (first | apply Kd.N_alloc | apply Kd.N_drewN | apply Kd.N_drew)); exact Kd.N_mono HO_253001.out (fun _ hk => ⟨⟨hk.1.1, ⟨hk.2, ⟨hk.1.2.2.1, hk.1.2.2.2⟩⟩⟩, hk.1.2.1⟩)) hg (.inl rfl)); have n2_ := Aside0.mk (blk_grown (g := gb251) (o := .cells #[.int .i64 0, .slice none 0 0] 26 (0, 0)) (bk BK251) hg (Kd.N_ne HO_7.out BK251.out (by decide))); have n3_ := Aside0.mk (blk_grown (g := gb252) (o := .cells #[.int .i64 x253000_1, .slice Ao37 x253001_1.length co37] 26 (0, 0)) (bk BK252) hg (Kd.N_ne HO_7.out BK252.out (by decide))); have n4_ := Aside0.mk (Kd.V_afterv (v := (.slice (some ⟨go41, 0, none⟩) x7_2.length co42)) (v1 := (.slice (some ⟨go41, 0, none⟩) x7_2.length co42)) (ok := (fun k_ => (w.heap.size ≤ k_) ∧ some k_ ≠ (.slice A275 t274.length c275 : Value).ownBlock ∧ k_ ≠ gb251 ∧ k_ ≠ gb252)) (by (with_reducible repeat (first | apply Kd.V_alloc | apply Kd.V_drewN | apply Kd.V_drew)); exact Kd.V_mono HL273_0.out (fun _ hk => ⟨⟨hk.1.1.1, ⟨hk.2, ⟨hk.1.1.2.1, hk.1.1.2.2⟩⟩⟩, hk.1.2⟩)) hg (.inl rfl)); have n5_ := Aside0.mk ((by rw [hw]; exact below_set (HB.out) GB41.out : Below w.heap.size w w45)); clear HO_7; clear HO_253001; clear BK251; clear BK252; clear HL273_0; clear HB; clear HO276; have HO_7 := n0_; have HO_253001 := n1_; have BK251 := n2_; have BK252 := n3_; have HL273_0 := n4_; have HB := n5_; clear n0_ n1_ n2_ n3_ n4_ n5_; clear hg hw hp_))
           go_roundg k2
           case measure => have := HK1.out; have := HK2.out; omega
           case rel => exact ⟨(y277), (wrap64 (x9_2 + 1)), (by first | rfl | (simp; done) | (simp [*]; done)), H', ⟨by have := HK1.out; have := HK2.out; omega⟩, ⟨nl HO_7⟩, ⟨by (with_reducible repeat (first | apply Kd.N_alloc | apply Kd.N_drewN | apply Kd.N_drew)); exact Kd.N_mono HO_253001.out (fun _ hk => ⟨hk.1.1, ⟨hk.2, ⟨hk.1.2.2.1, hk.1.2.2.2⟩⟩⟩)⟩, ⟨bk BK251⟩, ⟨bk BK252⟩, ⟨bl HB⟩⟩
          ·rw [if_neg c39] at H
           exact absurd H (by simp)
         ·rw [if_neg c38] at H
          have c38b0 : decide (x9_2 < (x7_2.length : Int)) = false := decide_eq_false c38
          clear c38
          replace H := Option.bind_eq_some_iff.mp H
          obtain ⟨t278, A460, H⟩ := H
          replace H : (if 0 ≤ x6_1 then (if x6_1 < (l1.length : Int) then ((gampref05_Then.f k2 t278 (wrap64 ((wrap64 (-(rd l1 x6_1))) - 1))).bind fun t282 => (if x7_2.length < 5864062014805 then ((gampref05_Right.f k2 a0 (wrap64 (x253000_1 - 1)) (x7_2 ++ [t282])).bind fun bt288 => (gampref05_Normal.l0 k2 a0 l1 (wrap64 (x6_1 + 1)) bt288.1 bt288.2)) else (none))) else (none)) else (none)) = some (r1, r2) := H
          have A46 := Aside0.mk A460
          clear A460
          by_cases c47 : 0 ≤ x6_1
          ·rw [if_pos c47] at H
           have c47b0 : decide (0 ≤ x6_1) = true := decide_eq_true c47
           clear c47
           by_cases c48 : x6_1 < (l1.length : Int)
           ·rw [if_pos c48] at H
            have c48b0 : decide (x6_1 < (l1.length : Int)) = true := decide_eq_true c48
            clear c48
            replace H := Option.bind_eq_some_iff.mp H
            obtain ⟨t282, A490, H⟩ := H
            replace H : (if x7_2.length < 5864062014805 then ((gampref05_Right.f k2 a0 (wrap64 (x253000_1 - 1)) (x7_2 ++ [t282])).bind fun bt288 => (gampref05_Normal.l0 k2 a0 l1 (wrap64 (x6_1 + 1)) bt288.1 bt288.2)) else (none)) = some (r1, r2) := H
            have A49 := Aside0.mk A490
            clear A490
            by_cases c50 : x7_2.length < 5864062014805
            ·rw [if_pos c50] at H
             have LMc50 := Aside0.mk c50
             clear c50
             obtain ⟨y285, hy285⟩ : ∃ y_ : List (List Int), y_ = (x7_2 ++ [t282]) := ⟨_, rfl⟩
             replace H : ((gampref05_Right.f k2 a0 (wrap64 (x253000_1 - 1)) y285).bind fun bt288 => (gampref05_Normal.l0 k2 a0 l1 (wrap64 (x6_1 + 1)) bt288.1 bt288.2)) = some (r1, r2) := by first | (rw [hy285]; with_reducible exact H) | (have H2_ := (Option.bind_some _ _).symm.trans H; rw [hy285]; with_reducible exact H2_) | (have H2_ := (Option.bind_some _ _).symm.trans H; with_reducible exact H2_) | with_reducible exact H | (rw [hy285]; exact H) | exact H
             have Ny285 := Aside0.mk hy285
             clear hy285
             replace H := Option.bind_eq_some_iff.mp H
             obtain ⟨⟨t288, t289⟩, A510, H⟩ := H
             replace H : (gampref05_Normal.l0 k2 a0 l1 (wrap64 (x6_1 + 1)) t288 t289) = some (r1, r2) := H
             have A51 := Aside0.mk A510
             clear A510
             have H' := Aside0.mk H
             clear H
             obtain ⟨Ao52, co52, eo52⟩ := Kd.N_slice HO_7.out
             subst eo52
             try go_wp2
             have n0_ := Aside0.mk (Kd.N_drew HO_7.out)
             have n1_ := Aside0.mk (Kd.N_drew HO_253001.out)
             have n2_ := Aside0.mk (blk_drew BK251.out)
             have n3_ := Aside0.mk (blk_drew BK252.out)
             have n4_ := Aside0.mk (below_drew1 HB.out)
             clear HO_7 HO_253001 BK251 BK252 HB
             have HO_7 := n0_; have HO_253001 := n1_; have BK251 := n2_; have BK252 := n3_; have HB := n4_
             clear n0_ n1_ n2_ n3_ n4_
             have p281 : 0 ≤ (x6_1 : Int) := ofd
             have q281 : x6_1 < (l1.length : Int) := ofd
             obtain ⟨ad281, e281, hx281_0⟩ := Kd.at_int HR1.out x6_1 p281 q281
             have hw281_0 := hx281_0
             obtain rfl : ad259 = ad281 := (by injection e281)
             replace hx281_0 := (HB.out.cell (World.block_lt_of_cell? w _ hx281_0)).trans hx281_0
             replace p281 := eq_true p281
             replace q281 := eq_true q281
             refine start_ (n := 18) (S := fun w' => w'.cell? ⟨gb252, 0, none⟩ = some (.int .i64 x253000_1) ∧ w'.cell? ⟨gb252, 1, none⟩ = some (.slice Ao37 x253001_1.length co37) ∧ w'.cell? (ad259.add (x6_1).toNat) = some (.int .i64 (rd l1 x6_1))) (ds := [17]) #[false, false, false, false, false, false, false, false, false, false, false, false, false, false, false, false, false, false] (by kernel_rfl) rfl rfl ⟨(blk_cell BK252.out 0).trans rfl, (blk_cell BK252.out 1).trans rfl, ((HB.out.cell (World.block_lt_of_cell? w _ hw281_0)).trans hw281_0)⟩ (fun hHeld => ?_); refine with_tabW gampref05_Normal.tab13 gampref05_Normal.bits13 (fun HT_ HW_ => ?_)
             generalize wr.drew = w53 at HO_7 HO_253001 BK251 BK252 HB hx281_0 hHeld ⊢
             refine pr 0 53 HT_ ?_
             refine pr 1 54 HT_ ?_
             refine pr 4 57 HT_ ?_
             refine pr 5 58 HT_ ?_
             refine pr 7 60 HT_ ?_
             refine pr 8 61 HT_ ?_
             refine pr 9 62 HT_ ?_
             refine tr 2 55 HT_ HW_ hHeld ?_
             refine pr 3 56 HT_ ?_
             refine tr 10 63 HT_ HW_ hHeld ?_
             refine pr 11 64 HT_ ?_
             refine pr 12 65 HT_ ?_
             refine on 6 (some 59) HT_ (fun K hK => ?_)
             refine gS Try.func29 #[.int .i64 a0] ?_
             with_reducible refine (gampref05_Half.calls k2 a0 t278 _ A46.out).mono ?_
             rintro e w54 ⟨v279, rfl, ho0, hb⟩
             refine ⟨_, rfl, ?_⟩
             have n0_ := Aside0.mk (Kd.N_elder' (nl HO_7) (Kd.R_base ho0) hb)
             have n1_ := Aside0.mk (Kd.N_elder' (nl HO_253001) (Kd.R_base ho0) hb)
             have n2_ := Aside0.mk (Kd.R_lower (Kd.R_newM (M := fun k_ => (w.heap.size ≤ k_)) ho0 (below_size (bl HB)) (fun k_ h_ => h_)) (below_size (bl HB)))
             have n3_ := Aside0.mk (blk_below (g := gb251) (o := .cells #[.int .i64 0, .slice none 0 0] 26 (0, 0)) (bk BK251) hb)
             have n4_ := Aside0.mk (blk_below (g := gb252) (o := .cells #[.int .i64 x253000_1, .slice Ao37 x253001_1.length co37] 26 (0, 0)) (bk BK252) hb)
             have n5_ := Aside0.mk (below_step (bl HB) hb)
             clear HO_7 HO_253001 BK251 BK252 HB
             have HO_7 := n0_; have HO_253001 := n1_; have HO280 := n2_; have BK251 := n3_; have BK252 := n4_; have HB := n5_
             clear n0_ n1_ n2_ n3_ n4_ n5_
             (try clear hb)
             (try clear hb2)
             (try clear hk)
             (try clear hi)
             (try clear ho0)
             obtain ⟨Ao55, co55, eo55⟩ := Kd.R_slice HO280.out
             (first | subst eo55 | (injection eo55 with f1_ f2_ f3_; have f4_ := f1_.symm; have f5_ := f3_.symm; clear f1_ f2_ f3_; subst f4_; subst f5_))
             refine hK.out _ _ ⟨(blk_cell BK252.out 0).trans rfl, (blk_cell BK252.out 1).trans rfl, ((HB.out.cell (World.block_lt_of_cell? w _ hw281_0)).trans hw281_0)⟩ (fun hHeld => ?_)
             clear hK K
             refine nr (some 59) ?_
             refine on 13 (some 66) HT_ (fun K hK => ?_)
             refine gS Try.func56 #[.slice Ao55 t278.length co55, .int .i64 (wrap64 ((wrap64 (-(rd l1 x6_1))) - 1))] ?_
             with_reducible refine (gampref05_Then.calls k2 _ _ t278 (wrap64 ((wrap64 (-(rd l1 x6_1))) - 1)) t282 _ ?side1 ?side2 A49.out).mono ?_
             (case side1 => exact cl ((Kd.R_reads' HO280.out).2.2))
             (case side2 => exact (Kd.R_reads' HO280.out).2.1)
             rintro e w56 ⟨v283, rfl, ho0, hb⟩
             refine ⟨_, rfl, ?_⟩
             have n0_ := Aside0.mk (Kd.N_elder' (nl HO_7) (Kd.R_base ho0) hb)
             have n1_ := Aside0.mk (Kd.N_elder' (nl HO_253001) (Kd.R_base ho0) hb)
             have n2_ := Aside0.mk (Kd.R_elder' (rl HO280) (Kd.R_base ho0) hb)
             have n3_ := Aside0.mk (Kd.R_lower (Kd.R_new' (Kd.R_newM (M := fun k_ => (w.heap.size ≤ k_)) ho0 (below_size (bl HB)) (fun k_ h_ => h_)) (Kd.R_lt (rl HO280))) (below_size (bl HB)))
             have n4_ := Aside0.mk (blk_below (g := gb251) (o := .cells #[.int .i64 0, .slice none 0 0] 26 (0, 0)) (bk BK251) hb)
             have n5_ := Aside0.mk (blk_below (g := gb252) (o := .cells #[.int .i64 x253000_1, .slice Ao37 x253001_1.length co37] 26 (0, 0)) (bk BK252) hb)
             have n6_ := Aside0.mk (below_step (bl HB) hb)
             clear HO_7 HO_253001 HO280 BK251 BK252 HB
             have HO_7 := n0_; have HO_253001 := n1_; have HO280 := n2_; have HO284 := n3_; have BK251 := n4_; have BK252 := n5_; have HB := n6_
             clear n0_ n1_ n2_ n3_ n4_ n5_ n6_
             (try clear hb)
             (try clear hb2)
             (try clear hk)
             (try clear hi)
             (try clear ho0)
             obtain ⟨Ao58, co58, eo58⟩ := Kd.R_slice HO284.out
             (first | subst eo58 | (injection eo58 with f1_ f2_ f3_; have f4_ := f1_.symm; have f5_ := f3_.symm; clear f1_ f2_ f3_; subst f4_; subst f5_))
             refine hK.out _ _ ⟨(blk_cell BK252.out 0).trans rfl, (blk_cell BK252.out 1).trans rfl, ((HB.out.cell (World.block_lt_of_cell? w _ hw281_0)).trans hw281_0)⟩ (fun hHeld => ?_)
             clear hK K
             refine nr (some 66) ?_
             refine on 14 (some 67) HT_ (fun K hK => ?_)
             refine value_ (w1 := ?_) (v := ?_) (by rfl) rfl ?_ ?_
             rotate_left 2
             ·go_simp
              constructor
              ·rfl
              ·rfl
             refine hK.out _ _ ⟨(blk_cell (blk_alloc BK252.out _) 0).trans rfl, (blk_cell (blk_alloc BK252.out _) 1).trans rfl, (World.cell?_alloc_lt _ _ _ (World.block_lt_of_cell? _ _ (((HB.out.cell (World.block_lt_of_cell? w _ hw281_0)).trans hw281_0)))).trans (((HB.out.cell (World.block_lt_of_cell? w _ hw281_0)).trans hw281_0))⟩ (fun hHeld => ?_)
             clear hK K
             refine nr (some 67) ?_
             refine on 15 (some 68) HT_ (fun K hK => ?_)
             refine Kd.N_append_step (Kd.slice 3 (Kd.int .i64)) (w0 := w) w.heap.size (by rfl) (.tmp 57) (.tmp 67) 24 22 (.slice none 0 0) 24 rfl Try.underlying24 info22 rfl (by decide) (by omega) (.slice Ao52 x7_2.length co52) x7_2 t282 [.slice Ao58 t282.length co58] (fun k_ => (w.heap.size ≤ k_) ∧ some k_ ≠ (.slice Ao55 t278.length co55 : Value).ownBlock ∧ k_ ≠ gb251 ∧ k_ ≠ gb252) (fun k_ => ((fun k_ => (w.heap.size ≤ k_) ∧ some k_ ≠ (.slice Ao55 t278.length co55 : Value).ownBlock ∧ k_ ≠ gb251 ∧ k_ ≠ gb252)) k_ ∧ some k_ ≠ (.slice Ao52 x7_2.length co52 : Value).ownBlock) rfl rfl ?aP (fun _ hk => hk) ?aF ?aO ?aB ?aS ?aL ?_
             (case aP => exact (Kd.FK_slice_mk (Kd.R_reads' (Kd.R_mono (ok' := (fun k_ => ((fun k_ => (w.heap.size ≤ k_) ∧ some k_ ≠ (.slice Ao55 t278.length co55 : Value).ownBlock ∧ k_ ≠ gb251 ∧ k_ ≠ gb252)) k_ ∧ some k_ ≠ (.slice Ao52 x7_2.length co52 : Value).ownBlock)) (Kd.R_types (Kd.R_types (Kd.R_apart' (HO284.out) (Kd.N_typed HO_7.out) (by decide)) BK251.out (by decide)) BK252.out (by decide)) (fun k_ hk => ⟨⟨hk.1.1.1.1.1, ⟨hk.1.1.1.2, ⟨hk.1.2, hk.2⟩⟩⟩, hk.1.1.2⟩))).2.1 (Kd.R_F (Kd.R_mono (ok' := (fun k_ => ((fun k_ => (w.heap.size ≤ k_) ∧ some k_ ≠ (.slice Ao55 t278.length co55 : Value).ownBlock ∧ k_ ≠ gb251 ∧ k_ ≠ gb252)) k_ ∧ some k_ ≠ (.slice Ao52 x7_2.length co52 : Value).ownBlock)) (Kd.R_types (Kd.R_types (Kd.R_apart' (HO284.out) (Kd.N_typed HO_7.out) (by decide)) BK251.out (by decide)) BK252.out (by decide)) (fun k_ hk => ⟨⟨hk.1.1.1.1.1, ⟨hk.1.1.1.2, ⟨hk.1.2, hk.2⟩⟩⟩, hk.1.1.2⟩)))))
             (case aB => exact (bl HB))
             (case aF => exact (fun k_ hk => ⟨(Nat.le_trans (below_size (bl HB)) hk), Kd.fresh' (Kd.R_lt (rl HO280)) k_ hk, Kd.freshB (g := gb251) (o := .cells #[.int .i64 0, .slice none 0 0] 26 (0, 0)) (bk BK251) k_ hk, Kd.freshB (g := gb252) (o := .cells #[.int .i64 x253000_1, .slice Ao37 x253001_1.length co37] 26 (0, 0)) (bk BK252) k_ hk⟩))
             (case aO => exact (by (with_reducible repeat (first | apply Kd.N_alloc | apply Kd.N_drewN | apply Kd.N_drew)); exact Kd.N_mono HO_7.out (fun _ hk => ⟨hk.1.1.1, ⟨hk.1.2, ⟨hk.1.1.2.1, hk.1.1.2.2⟩⟩⟩)))
             (case aS => exact (below_size (bl HB)))
             (case aL => have := LMc50.out; omega)
             intro v286 w57 ho hb hg hat
             rw [← Ny285.out] at ho
             have n0_ := Aside0.mk (Kd.N_afterv (ok := (fun k_ => (w.heap.size ≤ k_) ∧ some k_ ≠ (.slice Ao55 t278.length co55 : Value).ownBlock ∧ some k_ ≠ (.slice Ao58 t282.length co58 : Value).ownBlock ∧ k_ ≠ gb251 ∧ k_ ≠ gb252)) (by (with_reducible repeat (first | apply Kd.N_alloc | apply Kd.N_drewN | apply Kd.N_drew)); exact Kd.N_mono HO_253001.out (fun _ hk => ⟨⟨hk.1.1.1, ⟨hk.1.2, ⟨hk.2, ⟨hk.1.1.2.2.1, hk.1.1.2.2.2⟩⟩⟩⟩, hk.1.1.2.1⟩)) hg hat)
             have n1_ := Aside0.mk (blk_grown (g := gb251) (o := .cells #[.int .i64 0, .slice none 0 0] 26 (0, 0)) (bk BK251) hg (Kd.N_ne HO_7.out BK251.out (by decide)))
             have n2_ := Aside0.mk (blk_grown (g := gb252) (o := .cells #[.int .i64 x253000_1, .slice Ao37 x253001_1.length co37] 26 (0, 0)) (bk BK252) hg (Kd.N_ne HO_7.out BK252.out (by decide)))
             have n3_ := Aside0.mk (Kd.R_over' (rl HO280) (Kd.N_typed (nl HO_7)) (by decide) hg)
             have n4_ := Aside0.mk (hb)
             have n5_ := Aside0.mk (ho)
             clear HO_253001 BK251 BK252 HO280 HB HO_7 HO284
             have HO_253001 := n0_; have BK251 := n1_; have BK252 := n2_; have HO280 := n3_; have HB := n4_; have HO287 := n5_
             clear n0_ n1_ n2_ n3_ n4_ n5_ ho hb hg hat
             obtain ⟨Ao59, co59, eo59⟩ := Kd.N_slice HO287.out
             (first | subst eo59 | (injection eo59 with f1_ f2_ f3_; have f4_ := f1_.symm; have f5_ := f3_.symm; clear f1_ f2_ f3_; subst f4_; subst f5_))
             refine hK.out _ _ ⟨(blk_cell BK252.out 0).trans rfl, (blk_cell BK252.out 1).trans rfl, ((HB.out.cell (World.block_lt_of_cell? w _ hw281_0)).trans hw281_0)⟩ (fun hHeld => ?_)
             clear hK K
             refine nr (some 68) ?_
             refine on 16 (some 69) HT_ (fun K hK => ?_)
             refine gS Try.func55 #[.int .i64 a0, .int .i64 (wrap64 (x253000_1 - 1)), .slice Ao59 y285.length co59] ?_
             with_reducible refine (gampref05_Right.calls k2 a0 (wrap64 (x253000_1 - 1)) (fun k_ => ((w.heap.size ≤ k_) ∧ (some k_ ≠ (.slice Ao55 t278.length co55 : Value).ownBlock ∧ (k_ ≠ gb251 ∧ k_ ≠ gb252)))) _ _ y285 t288 t289 _ ?side1 A51.out).mono ?_
             (case side1 => exact Kd.N_V (HO287.out))
             rintro e w60 ⟨v290, rfl, ho0, hb⟩
             refine ⟨_, rfl, ?_⟩
             have n0_ := Aside0.mk (Kd.N_elder' (nl HO_253001) (by first | exact Kd.N_base ho0 | exact Kd.S_base ho0 | exact Kd.R_base ho0) hb)
             have n1_ := Aside0.mk (Kd.R_below (rl HO280) hb)
             have n2_ := Aside0.mk (Kd.N_elder' (nl HO287) (by first | exact Kd.N_base ho0 | exact Kd.S_base ho0 | exact Kd.R_base ho0) hb)
             have n3_ := Aside0.mk (Kd.N_lower (Kd.N_mono (ok' := fun k_ => (w.heap.size ≤ k_) ∧ some k_ ≠ (.slice Ao55 t278.length co55 : Value).ownBlock ∧ k_ ≠ gb251 ∧ k_ ≠ gb252) ho0 (fun k_ hk_ => ⟨Or.elim hk_ (fun hs_ => hs_.1) (fun hn_ => (Nat.le_trans (below_size (bl HB)) hn_)), Or.elim hk_ (fun hs_ => hs_.2.1) (fun hn_ => (Kd.fresh' (Kd.R_lt (rl HO280)) k_ hn_)), Or.elim hk_ (fun hs_ => hs_.2.2.1) (fun hn_ => (Kd.freshB (g := gb251) (o := .cells #[.int .i64 0, .slice none 0 0] 26 (0, 0)) (bk BK251) k_ hn_)), Or.elim hk_ (fun hs_ => hs_.2.2.2) (fun hn_ => (Kd.freshB (g := gb252) (o := .cells #[.int .i64 x253000_1, .slice Ao37 x253001_1.length co37] 26 (0, 0)) (bk BK252) k_ hn_))⟩)) (below_size (bl HB)))
             have n4_ := Aside0.mk (blk_below (g := gb251) (o := .cells #[.int .i64 0, .slice none 0 0] 26 (0, 0)) (bk BK251) hb)
             have n5_ := Aside0.mk (blk_below (g := gb252) (o := .cells #[.int .i64 x253000_1, .slice Ao37 x253001_1.length co37] 26 (0, 0)) (bk BK252) hb)
             have n6_ := Aside0.mk (below_step (bl HB) hb)
             clear HO_253001 HO280 HO287 BK251 BK252 HB
             have HO_253001 := n0_; have HO280 := n1_; have HO287 := n2_; have HO291 := n3_; have BK251 := n4_; have BK252 := n5_; have HB := n6_
             clear n0_ n1_ n2_ n3_ n4_ n5_ n6_
             (try clear hb)
             (try clear hb2)
             (try clear hk)
             (try clear hi)
             (try clear ho0)
             obtain ⟨Ao62, co62, eo62⟩ := Kd.N_slice HO291.out
             (first | subst eo62 | (injection eo62 with f1_ f2_ f3_; have f4_ := f1_.symm; have f5_ := f3_.symm; clear f1_ f2_ f3_; subst f4_; subst f5_))
             refine hK.out _ _ ⟨(blk_cell BK252.out 0).trans rfl, (blk_cell BK252.out 1).trans rfl, ((HB.out.cell (World.block_lt_of_cell? w _ hw281_0)).trans hw281_0)⟩ (fun hHeld => ?_)
             clear hK K
             refine nr (some 69) ?_
             refine la 17 (none) HT_ (fun K hK => ?_)
             have hs61 : w60.cell? ⟨gb252, 0, none⟩ = some (.int .i64 x253000_1) := (blk_cell BK252.out 0).trans rfl
             have hfs61 := blk_frozen BK252.out 0
             have hns61_0 := NB251_252.out
             have hms61_0 := NB252_251.out
             have hs63 : w60.cell? ⟨gb252, 1, none⟩ = some (.slice Ao37 x253001_1.length co37) := (blk_cell BK252.out 1).trans rfl
             have hfs63 := blk_frozen BK252.out 1
             have hns63_0 := NB251_252.out
             have hms63_0 := NB252_251.out
             refine sk ?_
             refine hK.out _ _ ?_
             clear hK K
             refine dn HT_ ?_
             try go_wp2
             go_roundg k2
             case measure => have := HK1.out; have := HK2.out; omega
             case rel => exact ⟨(wrap64 (x6_1 + 1)), (t288), (t289), (.slice Ao62 t289.length co62), (by first | rfl | (simp; done) | (simp [*]; done)), H', ⟨by have := HK1.out; have := HK2.out; omega⟩, ⟨by (with_reducible repeat (first | apply Kd.N_alloc | apply Kd.N_drewN | apply Kd.N_drew)); exact Kd.N_mono (Kd.N_far (p := ⟨gb252, 1, none⟩) (Kd.N_far (p := ⟨gb252, 0, none⟩) (Kd.N_mono HO291.out (fun k_ hk => (⟨hk, hk.2.2.2⟩ : _ ∧ k_ ≠ gb252))) (fun _ hk => hk.2) (.int .i64 t288)) (fun _ hk => hk.2) (.slice Ao62 t289.length co62)) (fun _ hk => ⟨hk.1.1, ⟨hk.1.2.2.1, hk.1.2.2.2⟩⟩)⟩, ⟨by (with_reducible repeat (first | refine blk_drewN ?_ _ | refine blk_drew ?_ | refine blk_alloc ?_ _)); refine blk_far ?_ NB251_252.out _; (with_reducible repeat (first | refine blk_drewN ?_ _ | refine blk_drew ?_ | refine blk_alloc ?_ _)); refine blk_far ?_ NB251_252.out _; (with_reducible repeat (first | refine blk_drewN ?_ _ | refine blk_drew ?_ | refine blk_alloc ?_ _)); exact BK251.out⟩, ⟨by (with_reducible repeat (first | refine blk_drewN ?_ _ | refine blk_drew ?_ | refine blk_alloc ?_ _)); refine blk_put (cs := #[.int .i64 t288, .slice Ao37 x253001_1.length co37]) ?_ 1 _ rfl; (with_reducible repeat (first | refine blk_drewN ?_ _ | refine blk_drew ?_ | refine blk_alloc ?_ _)); refine blk_put (cs := #[.int .i64 x253000_1, .slice Ao37 x253001_1.length co37]) ?_ 0 _ rfl; (with_reducible repeat (first | refine blk_drewN ?_ _ | refine blk_drew ?_ | refine blk_alloc ?_ _)); exact BK252.out⟩, ⟨bl HB⟩⟩
            ·rw [if_neg c50] at H
             exact absurd H (by simp)
           ·rw [if_neg c48] at H
            exact absurd H (by simp)
          ·rw [if_neg c47] at H
           exact absurd H (by simp)
     ·rw [if_neg c9] at H
      exact absurd H (by simp)
    ·rw [if_neg c8] at H
     exact absurd H (by simp)
   ·rw [if_neg c7] at H
    have c7b0 : decide (x6_1 < (l1.length : Int)) = false := decide_eq_false c7
    clear c7
    simp only [Option.some.injEq, Prod.mk.injEq] at H
    obtain ⟨rfl, rfl⟩ := H
    have hnb64 := NB252_251.out
    have hnc64 := NB251_252.out
    have hcz65_0 : wr.cell? ⟨gb252, 0, none⟩ = some (.int .i64 x253000_1) := (blk_cell BK252.out 0).trans rfl
    have hcz65_1 : wr.cell? ⟨gb252, 1, none⟩ = some (u253001) := (blk_cell BK252.out 1).trans rfl
    have hfz65_0 := blk_frozen BK252.out 0
    have hfz65_1 := blk_frozen BK252.out 1
    have hcz66_0 : wr.cell? ⟨gb251, 0, none⟩ = some (.int .i64 0) := (blk_cell BK251.out 0).trans rfl
    have hcz66_1 : wr.cell? ⟨gb251, 1, none⟩ = some (.slice none 0 0) := (blk_cell BK251.out 1).trans rfl
    have hfz66_0 := blk_frozen BK251.out 0
    have hfz66_1 := blk_frozen BK251.out 1
    obtain ⟨Ao67, co67, eo67⟩ := Kd.N_slice HO_253001.out
    subst eo67
    go_wp2
    refine bodyPost_ret (results_cell_row rfl _ _ gb251 26 #[.int .i64 x253000_1, .slice Ao67 x253001_1.length co67] (0, 0) _ rfl (by (with_reducible repeat (first | refine blk_drewN ?_ _ | refine blk_drew ?_ | refine blk_alloc ?_ _)); refine blk_put (cs := #[.int .i64 x253000_1, .slice none 0 0]) ?_ 1 _ rfl; (with_reducible repeat (first | refine blk_drewN ?_ _ | refine blk_drew ?_ | refine blk_alloc ?_ _)); refine blk_put (cs := #[.int .i64 0, .slice none 0 0]) ?_ 0 _ rfl; (with_reducible repeat (first | refine blk_drewN ?_ _ | refine blk_drew ?_ | refine blk_alloc ?_ _)); exact BK251.out) Try.underlying26 rfl (by kernel_rfl)) rfl ?_
    exact ⟨_, by first | rfl | (simp [errW_none, errW_some] <;> rfl) | (simp [*, errW_none, errW_some] <;> rfl), by (with_reducible repeat (first | apply Kd.N_alloc | apply Kd.N_drewN | apply Kd.N_drew)); exact Kd.N_mono (Kd.N_far (p := ⟨gb251, 1, none⟩) (Kd.N_far (p := ⟨gb251, 0, none⟩) (Kd.N_mono HO_253001.out (fun k_ hk => (⟨hk, hk.2.1⟩ : _ ∧ k_ ≠ gb251))) (fun _ hk => hk.2) (.int .i64 x253000_1)) (fun _ hk => hk.2) (.slice Ao67 x253001_1.length co67)) (fun _ hk => hk.1.1), by repeat (first | (with_reducible first | exact HB.out | apply below_alloc | apply pw_below_drewN | apply below_drew1 | refine below_set ?_ GE251.out | refine below_set ?_ GE252.out) | exact HB.out)⟩
end Go.Proofs.Ytdldfdcedjmneaa.Lx

/- The declarations of Rwx2 that the claim Qw needs. -/
import Derived.Test.YtdpolfflemocaaaQwTkP
import Derived.Test.YtdpolfflemocaaaQwRwx0
import Derived.Test.YtdpolfflemocaaaQwRwx1
namespace Go.Proofs.Ytdpolfflemocaaa.Rw
open Go.RowKit Go.Proofs.Ytdpolfflemocaaa.Own Go.Proofs.Ytdpolfflemocaaa.Rx Go.Proofs.YtdpolfflemocaaaW.PrintWords Go.Proofs.YtdpolfflemocaaaW.PrintLast Go.Proofs.YtdpolfflemocaaaW.PrintMore
attribute [local go_sem] max2_int min2_int max_two min_two max_three min_three max_four min_four
set_option linter.unusedVariables false
set_option linter.unusedSimpArgs false
mutual
def rib_graph_way.l0 : Nat → List Int → Int → Int → Int → MapT → List Int → Option (List Int)
  | 0, _, _, _, _, _, _ => none
  | k + 1, x0, x1, x2, x3, x9, x10 => if (x10.length : Int) > 0 then (if 0 < (x10.length : Int) then (if (rd x10 0) = x2 then (rib_graph_way.l1 k x1 x9 (rd x10 0) (([x2] : List Int))) else (if 0 ≤ (rd x10 0) then (if (rd x10 0) < (x0.length : Int) then ((rib_one.f x2).bind fun t119 => ((rib_set_list.f k (Go.bits .and .u32 (rd x0 (rd x10 0)) (Go.bits .or .u32 x3 t119))).bind fun t120 => (rib_graph_way.l2 k x0 x1 x2 x3 x9 x10 (rd x10 0) t120 (t120.length : Int) 0))) else (none)) else (none))) else (none)) else (some ([] : List Int))
def rib_graph_way.l1 : Nat → Int → MapT → Int → List Int → Option (List Int)
  | 0, _, _, _, _ => none
  | k + 1, x1, x9, x11, x12 => if x11 = x1 then ((slices_Reverse_int_int.f k x12).bind fun t113 => (some t113)) else ((map_get.f x9 x11).bind fun t114 => (if x12.length < 17592186044416 then (rib_graph_way.l1 k x1 x9 t114 (x12 ++ [t114])) else (none)))
def rib_graph_way.l2 : Nat → List Int → Int → Int → Int → MapT → List Int → Int → List Int → Int → Int → Option (List Int)
  | 0, _, _, _, _, _, _, _, _, _, _ => none
  | k + 1, x0, x1, x2, x3, x9, x10, x11, x58, x59, x60 => if x60 < x59 then (if 0 ≤ x60 then (if x60 < (x58.length : Int) then ((map_has.f x9 (rd x58 x60)).bind fun bt127 => (if bt127.2 = true then (rib_graph_way.l2 k x0 x1 x2 x3 x9 x10 x11 x58 x59 (wrap64 (x60 + 1))) else ((map_put.f x9 (rd x58 x60) x11).bind fun t129 => (if x10.length < 17592186044416 then (rib_graph_way.l2 k x0 x1 x2 x3 t129 (x10 ++ [rd x58 x60]) x11 x58 x59 (wrap64 (x60 + 1))) else (none))))) else (none)) else (none)) else (if 1 ≤ (x10.length : Int) then (rib_graph_way.l0 k x0 x1 x2 x3 x9 (x10.drop (1 : Int).toNat)) else (none))
end
def rib_graph_way.f (k : Nat) (l0 : List Int) (a1 : Int) (a2 : Int) (a3 : Int) : Option (List Int) := (map_put.f [] a1 a1).bind fun t105 => (rib_graph_way.l0 k l0 a1 a2 a3 t105 (([a1] : List Int)))
def rib_graph_way.T13 : Bool × List (List Nat × List Nat) := (true, [([], []), ([], []), ([0, 1], [0, 1]), ([2], [2]), ([], []), ([], []), ([5], [5]), ([4, 6], [4, 6]), ([3, 7], [3, 7]), ([8, 6], [8]), ([9], [9]), ([], [])])
def rib_graph_way.B13 : List Nat := [0, 0, 3, 7, 0, 0, 32, 112, 255, 511, 1023, 0]
theorem rib_graph_way.tab13 : rtab .any (opsOf Try.f92 13) = rib_graph_way.T13 := by kernel_rfl
theorem rib_graph_way.bits13 : waitsOk rib_graph_way.T13.2 rib_graph_way.B13 = true := by kernel_rfl
set_option maxHeartbeats 8000000 in
set_option maxRecDepth 100000 in
theorem rib_graph_way.calls (k : Nat) (A0 : Option Addr) (c0 : Nat) (l0 : List Int) (a1 : Int) (a2 : Int) (a3 : Int) (r : List Int) (w : World) (hr0 : Kd.C (Kd.int .u32) w A0 l0.length l0) (hc0 : l0.length ≤ c0) (h : rib_graph_way.f k l0 a1 a2 a3 = some r) :
  Calls Try.prog 92 #[.slice A0 l0.length c0, .int .i64 a1, .int .i64 a2, .int .u32 a3] w fun e w' => ∃ v0_ : Value, e = .returned (v0_) ∧ (r = [] → v0_ = .slice none 0 0) ∧ Kd.R (Kd.int .i64) 3 w' w.heap.size (fun _ => True) v0_ r ∧ Below w.heap.size w w' := by
 have HR0 := Aside0.mk hr0
 have HC0 := Aside0.mk hc0
 clear hr0 hc0
 have HB := Aside0.mk (Below.refl w.heap.size w)
 have H : ((map_put.f [] a1 a1).bind fun t105 => (rib_graph_way.l0 k l0 a1 a2 a3 t105 (([a1] : List Int)))) = some r := h
 clear h
 replace H := Option.bind_eq_some_iff.mp H
 obtain ⟨t105, A50, H⟩ := H
 replace H : (rib_graph_way.l0 k l0 a1 a2 a3 t105 (([a1] : List Int))) = some r := H
 have A5 := Aside0.mk A50
 clear A50
 obtain ⟨y106, hy106⟩ : ∃ y_ : List Int, y_ = (([a1] : List Int)) := ⟨_, rfl⟩
 replace H : (rib_graph_way.l0 k l0 a1 a2 a3 t105 y106) = some r := by first | (rw [hy106]; with_reducible exact H) | (have H2_ := (Option.bind_some _ _).symm.trans H; rw [hy106]; with_reducible exact H2_) | (have H2_ := (Option.bind_some _ _).symm.trans H; with_reducible exact H2_) | with_reducible exact H | (rw [hy106]; exact H) | exact H
 have Ny106 := Aside0.mk hy106
 clear hy106
 have H' := Aside0.mk H
 clear H
 have hmm_ := @run_makeMap Try.prog
 go_enter Try.func92, Try.ntmps92
 go_wp2_with (first | ((with_reducible refine lay_put _ rfl (.tmp 17) (.tmp 18) (.tmp 19) (Or.inr rfl) w.heap.size [] t105 a1 a1 ?hM A5.out ?hm ?hx ?hy ?_); (case hM => exact MapIs.made w); (case hm => rfl); (case hx => rfl); (case hy => rfl); intro w5 hm_ hg_; have HM := Aside0.mk hm_; have hb_ := Aside0.mk (below_map (bl HB) hg_ (Nat.le_refl _) (by simp)); clear HB hm_ hg_; have HB := hb_; clear hb_) | ((with_reducible refine gate_dst (N := 22) rfl ?_); refine Kd.R_lit (Kd.int .i64) _ 3 ?hg (N := 22) ?hd (xs := ([a1] : List Int)) (inner := [.int .i64 a1]) (ok := fun _ => True) (okp := fun _ => True) ?hr ?hp (fun _ hk => hk) trivial (Below.refl _ _) (Nat.le_refl _) (by simp) ?_; (case hd => rfl); (case hg => rfl); (case hr => first | (go_simp; done) | (go_simp; rfl)); (case hp => exact (Reps.one (show Kd.M (Kd.int .i64) _ _ _ a1 [.int .i64 a1] from rfl) (Reps.none _ _))); intro v107 w6 ho7 hb hg_ hnew_; clear hg_ hnew_; have m_ := Aside0.mk (MapIs.below (by (with_reducible repeat (first | apply MapIs.alloc | apply MapIs.drewN | apply MapIs.drew)); exact HM.out) hb); clear HM; have HM := m_; clear m_; (first | rw [← Ny106.out] at ho7 | (simp only [Int.reduceToNat] at ho7; rw [← Ny106.out] at ho7)); have n0_ := Aside0.mk (Kd.R_lower ho7 (below_size (bl HB))); have n1_ := Aside0.mk (below_step (bl HB) hb); clear HB; have HO108 := n0_; have HB := n1_; clear n0_ n1_; clear hb ho7))
 go_loopg [10] k (fun kq v10 w' => ∃ (x9_1 : MapT) (x10_1 : List Int), Aside0 (rib_graph_way.l0 kq l0 a1 a2 a3 x9_1 x10_1 = some r) ∧ Aside0 (kq ≤ k) ∧ Aside0 (Kd.Q (Kd.int .i64) 3 w' w.heap.size (fun _ => True) v10 x10_1) ∧ Aside0 (Below w.heap.size w w') ∧ Aside0 (MapIs w' w.heap.size x9_1))
 case atStart => exact ⟨(t105), (y106), H', ⟨Nat.le_refl _⟩, ⟨Kd.Q_of_R (rl HO108)⟩, ⟨bl HB⟩, ⟨(by (with_reducible repeat (first | apply MapIs.alloc | apply MapIs.drewN | apply MapIs.drew)); exact HM.out)⟩⟩
 case round =>
  clear H'
  try clear c1
  try clear p2
  obtain ⟨x9_1, x10_1, HA, HK1, HO_10, HB, HM⟩ := hrel
  cases gk with
  | zero => exact absurd HA.out (by simp [rib_graph_way.l0])
  | succ k1 =>
   have H := HA.out
   clear HA
   simp only [rib_graph_way.l0] at H
   by_cases c8 : (x10_1.length : Int) > 0
   ·rw [if_pos c8] at H
    have c8b0 : decide (0 < (x10_1.length : Int)) = true := decide_eq_true c8
    have c8b1 : decide (0 < x10_1.length) = true := decide_eq_true (by omega)
    clear c8
    by_cases c9 : 0 < (x10_1.length : Int)
    ·rw [if_pos c9] at H
     have c9b0 : decide (0 < (x10_1.length : Int)) = true := decide_eq_true c9
     have c9b1 : decide (0 < x10_1.length) = true := decide_eq_true (by omega)
     clear c9
     by_cases c10 : (rd x10_1 0) = a2
     ·rw [if_pos c10] at H
      have c10b0 : ((rd x10_1 0) == a2) = true := beq_iff_eq.mpr c10
      have c10b1 : ((rd x10_1 0) != a2) = false := bne_eq_false_iff_eq.mpr c10
      clear c10
      obtain ⟨y110, hy110⟩ : ∃ y_ : List Int, y_ = (([a2] : List Int)) := ⟨_, rfl⟩
      replace H : (rib_graph_way.l1 k1 a1 x9_1 (rd x10_1 0) y110) = some r := by first | (rw [hy110]; with_reducible exact H) | (have H2_ := (Option.bind_some _ _).symm.trans H; rw [hy110]; with_reducible exact H2_) | (have H2_ := (Option.bind_some _ _).symm.trans H; with_reducible exact H2_) | with_reducible exact H | (rw [hy110]; exact H) | exact H
      have Ny110 := Aside0.mk hy110
      clear hy110
      have H' := Aside0.mk H
      clear H
      obtain ⟨Ao11, co11, eo11, _⟩ := Kd.Q_slice HO_10.out
      subst eo11
      have p109 : 0 ≤ (0 : Int) := (by omega)
      have q109 : 0 < (x10_1.length : Int) := ofd
      obtain ⟨ad109, e109, hx109_0⟩ := Kd.at_int (Kd.Q_reads' HO_10.out).2.2 0 p109 q109
      cases e109
      have qi109 : (0 < x10_1.length) = True := eq_true (by omega)
      (try rw [show ((0 : Int)).toNat = 0 from rfl] at hx109_0)
      (try rw [Addr.add_zero'] at hx109_0)
      replace p109 := eq_true p109
      replace q109 := eq_true q109
      go_wp2_with (first | ((with_reducible refine gate_dst (N := 35) rfl ?_); refine Kd.R_lit (Kd.int .i64) _ 3 ?hg (N := 35) ?hd (xs := ([a2] : List Int)) (inner := [.int .i64 a2]) (ok := fun _ => True) (okp := fun _ => True) ?hr ?hp (fun _ hk => hk) trivial (Below.refl _ _) (Nat.le_refl _) (by simp) ?_; (case hd => rfl); (case hg => rfl); (case hr => first | (go_simp; done) | (go_simp; rfl)); (case hp => exact (Reps.one (show Kd.M (Kd.int .i64) _ _ _ a2 [.int .i64 a2] from rfl) (Reps.none _ _))); intro v111 w12 ho13 hb hg_ hnew_; clear hg_ hnew_; have m_ := Aside0.mk (MapIs.below (by (with_reducible repeat (first | apply MapIs.alloc | apply MapIs.drewN | apply MapIs.drew)); exact HM.out) hb); clear HM; have HM := m_; clear m_; (first | rw [← Ny110.out] at ho13 | (simp only [Int.reduceToNat] at ho13; rw [← Ny110.out] at ho13)); have n0_ := Aside0.mk (Kd.Q_elder' (by (with_reducible repeat (first | apply Kd.Q_alloc | apply Kd.Q_drewN | apply Kd.Q_drew)); exact HO_10.out) (Kd.R_base ho13) hb); have n1_ := Aside0.mk (Kd.R_lower (Kd.R_new' ho13 (Kd.Q_lt (by (with_reducible repeat (first | apply Kd.Q_alloc | apply Kd.Q_drewN | apply Kd.Q_drew)); exact HO_10.out))) (below_size (bl HB))); have n2_ := Aside0.mk (below_step (bl HB) hb); clear HO_10; clear HB; have HO_10 := n0_; have HO112 := n1_; have HB := n2_; clear n0_ n1_ n2_; clear hb ho13))
      go_loopg [11, 12] k1 (fun kq v11 v12 w' => ∃ (x11_2 : Int) (x12_2 : List Int), v11 = .int .i64 x11_2 ∧ Aside0 (rib_graph_way.l1 kq a1 x9_1 x11_2 x12_2 = some r) ∧ Aside0 (kq ≤ k1) ∧ Aside0 (Kd.R (Kd.int .i64) 3 w' w.heap.size (fun _ => True) v12 x12_2) ∧ Aside0 (Below w.heap.size w w') ∧ Aside0 (MapIs w' w.heap.size x9_1) ∧ Aside0 (0 < x12_2.length))
      case atStart => exact ⟨(rd x10_1 0), (y110), (by first | rfl | (simp; done) | (simp [*]; done)), H', ⟨Nat.le_refl _⟩, ⟨by (with_reducible repeat (first | apply Kd.R_alloc | apply Kd.R_drewN | apply Kd.R_drew)); exact Kd.R_mono HO112.out (fun _ hk => trivial)⟩, ⟨bl HB⟩, ⟨(by (with_reducible repeat (first | apply MapIs.alloc | apply MapIs.drewN | apply MapIs.drew)); exact HM.out)⟩, ⟨by rw [Ny110.out]; simp⟩⟩
      case round =>
       clear H'
       try clear c1
       try clear p1
       try clear q1
       try clear hx1
       try clear qi1
       try clear p2
       try clear c8
       try clear c8b0
       try clear c8b1
       try clear c9
       try clear c9b0
       try clear c9b1
       try clear c10
       try clear c10b0
       try clear c10b1
       try clear p10
       try clear q10
       try clear hx10
       try clear qi10
       try clear c12
       try clear hx109_0
       try clear p109
       try clear p2
       try clear q109
       obtain ⟨x11_2, x12_2, rfl, HA, HK2, HO_12, HB, HM, HL12⟩ := hrel
       cases gk with
       | zero => exact absurd HA.out (by simp [rib_graph_way.l1])
       | succ k2 =>
        have H := HA.out
        clear HA
        simp only [rib_graph_way.l1] at H
        by_cases c14 : x11_2 = a1
        ·rw [if_pos c14] at H
         have c14b0 : (x11_2 == a1) = true := beq_iff_eq.mpr c14
         have c14b1 : (x11_2 != a1) = false := bne_eq_false_iff_eq.mpr c14
         clear c14
         replace H := Option.bind_eq_some_iff.mp H
         obtain ⟨t113, A150, H⟩ := H
         replace H : (some t113) = some r := H
         have A15 := Aside0.mk A150
         clear A150
         obtain rfl := Option.some.inj H
         obtain ⟨Ao16, co16, eo16⟩ := Kd.R_slice HO_12.out
         subst eo16
         go_wp2_with (first | ((with_reducible refine gate_callee (f := 103) rfl ?_); refine gL 47 Try.func103 #[.slice Ao16 x12_2.length co16] ?_; (with_reducible refine (slices_Reverse_int_int.calls k2 (fun k_ => some k_ = (.slice Ao16 x12_2.length co16 : Value).ownBlock) (.slice Ao16 x12_2.length co16) x12_2 t113 w _ ?side1 ?side2 A15.out).mono ?_); (case side1 => repeat (first | (with_reducible first | exact HB.out | apply below_alloc | apply pw_below_drewN | apply below_drew1) | exact HB.out)); (case side2 => exact Kd.R_tight rfl HO_12.out); rintro e w17 ⟨rfl, hy0, hb, hkp⟩; refine ⟨_, rfl, ?_⟩; have n0_ := Aside0.mk (Kd.R_reok rfl hy0 (fun k_ e_ => HO_12.out.1 k_ e_)); have n1_ := Aside0.mk (hb); clear HO_12; clear HB; have HO_12 := n0_; have HB := n1_; clear n0_ n1_; (try clear hb); (try clear hkp); (try clear hy0)))
         go_ret
         exact ⟨_, by first | rfl | (simp [errW_none, errW_some] <;> rfl) | (simp [*, errW_none, errW_some] <;> rfl), fun h_ => by (obtain ⟨A_, c_, e_⟩ := Kd.R_slice HO_12.out; injection e_ with _ e2_; have hl_ := HL12.out; have e3_ : x12_2.length = 0 := (by rw [e2_, h_]; rfl); omega), by (with_reducible repeat (first | apply Kd.R_alloc | apply Kd.R_drewN | apply Kd.R_drew)); exact HO_12.out, by repeat (first | (with_reducible first | exact HB.out | apply below_alloc | apply pw_below_drewN | apply below_drew1) | exact HB.out)⟩
        ·rw [if_neg c14] at H
         have c14b0 : (x11_2 == a1) = false := beq_eq_false_iff_ne.mpr c14
         have c14b1 : (x11_2 != a1) = true := bne_iff_ne.mpr c14
         replace H := Option.bind_eq_some_iff.mp H
         obtain ⟨t114, A180, H⟩ := H
         replace H : (if x12_2.length < 17592186044416 then (rib_graph_way.l1 k2 a1 x9_1 t114 (x12_2 ++ [t114])) else (none)) = some r := H
         have A18 := Aside0.mk A180
         clear A180
         by_cases c19 : x12_2.length < 17592186044416
         ·rw [if_pos c19] at H
          have LMc19 := Aside0.mk c19
          clear c19
          obtain ⟨y115, hy115⟩ : ∃ y_ : List Int, y_ = (x12_2 ++ [t114]) := ⟨_, rfl⟩
          replace H : (rib_graph_way.l1 k2 a1 x9_1 t114 y115) = some r := by first | (rw [hy115]; with_reducible exact H) | (have H2_ := (Option.bind_some _ _).symm.trans H; rw [hy115]; with_reducible exact H2_) | (have H2_ := (Option.bind_some _ _).symm.trans H; with_reducible exact H2_) | with_reducible exact H | (rw [hy115]; exact H) | exact H
          have Ny115 := Aside0.mk hy115
          clear hy115
          have H' := Aside0.mk H
          clear H
          go_wp2_with (first | ((with_reducible refine lay_get _ rfl (.tmp 39) (.tmp 40) rfl w.heap.size x9_1 x11_2 t114 ?hM A18.out ?hm ?hx ?_); (case hM => exact (by (with_reducible repeat (first | apply MapIs.alloc | apply MapIs.drewN | apply MapIs.drew)); exact HM.out)); (case hm => rfl); (case hx => rfl)) | ((with_reducible refine gate_builtin (b := .append) (xs := #[.tmp 42, .tmp 44]) rfl ?_); at_builtin; refine Kd.R_append (Kd.int .i64) (w0 := w) w.heap.size rfl (.tmp 42) (.tmp 44) 34 3 (.int .i64 0) 8 rfl Try.underlying34 info3 rfl (by decide) (by omega) u12 x12_2 t114 [.int .i64 t114] (fun _ => True) (fun _ => False) rfl rfl ?aP (fun _ hk => hk.elim) ?aF ?aO ?aB ?aS ?aL ?_; (case aP => exact rfl); (case aB => exact (bl HB)); (case aF => exact (fun _ _ => trivial)); (case aO => exact (rl HO_12)); (case aS => exact (below_size (bl HB))); (case aL => have := LMc19.out; omega); intro v116 w20 ho hb hg hat; have m_ := Aside0.mk (MapIs.kept_R hg (by (with_reducible repeat (first | apply MapIs.alloc | apply MapIs.drewN | apply MapIs.drew)); exact HM.out) (rl HO_12)); clear HM; have HM := m_; clear m_; rw [← Ny115.out] at ho; have n0_ := Aside0.mk (hb); have n1_ := Aside0.mk (ho); clear HB; clear HO_12; have HB := n0_; have HO117 := n1_; clear n0_ n1_; clear ho hb hg hat))
          go_roundg k2
          case measure => have := HK1.out; have := HK2.out; omega
          case rel => exact ⟨(t114), (y115), (by first | rfl | (simp; done) | (simp [*]; done)), H', ⟨by have := HK1.out; have := HK2.out; omega⟩, ⟨rl HO117⟩, ⟨bl HB⟩, ⟨(by (with_reducible repeat (first | apply MapIs.alloc | apply MapIs.drewN | apply MapIs.drew)); exact HM.out)⟩, ⟨by rw [Ny115.out]; simp⟩⟩
         ·rw [if_neg c19] at H
          exact absurd H (by simp)
     ·rw [if_neg c10] at H
      have c10b0 : ((rd x10_1 0) == a2) = false := beq_eq_false_iff_ne.mpr c10
      have c10b1 : ((rd x10_1 0) != a2) = true := bne_iff_ne.mpr c10
      by_cases c21 : 0 ≤ (rd x10_1 0)
      ·rw [if_pos c21] at H
       have c21b0 : decide (0 ≤ (rd x10_1 0)) = true := decide_eq_true c21
       clear c21
       by_cases c22 : (rd x10_1 0) < (l0.length : Int)
       ·rw [if_pos c22] at H
        have c22b0 : decide ((rd x10_1 0) < (l0.length : Int)) = true := decide_eq_true c22
        clear c22
        replace H := Option.bind_eq_some_iff.mp H
        obtain ⟨t119, A230, H⟩ := H
        replace H : ((rib_set_list.f k1 (Go.bits .and .u32 (rd l0 (rd x10_1 0)) (Go.bits .or .u32 a3 t119))).bind fun t120 => (rib_graph_way.l2 k1 l0 a1 a2 a3 x9_1 x10_1 (rd x10_1 0) t120 (t120.length : Int) 0)) = some r := H
        have A23 := Aside0.mk A230
        clear A230
        replace H := Option.bind_eq_some_iff.mp H
        obtain ⟨t120, A240, H⟩ := H
        replace H : (rib_graph_way.l2 k1 l0 a1 a2 a3 x9_1 x10_1 (rd x10_1 0) t120 (t120.length : Int) 0) = some r := H
        have A24 := Aside0.mk A240
        clear A240
        have H' := Aside0.mk H
        clear H
        obtain ⟨Ao25, co25, eo25, _⟩ := Kd.Q_slice HO_10.out
        subst eo25
        have p109 : 0 ≤ (0 : Int) := (by omega)
        have q109 : 0 < (x10_1.length : Int) := ofd
        obtain ⟨ad109, e109, hx109_0⟩ := Kd.at_int (Kd.Q_reads' HO_10.out).2.2 0 p109 q109
        cases e109
        have qi109 : (0 < x10_1.length) = True := eq_true (by omega)
        (try rw [show ((0 : Int)).toNat = 0 from rfl] at hx109_0)
        (try rw [Addr.add_zero'] at hx109_0)
        replace p109 := eq_true p109
        replace q109 := eq_true q109
        try go_wp2
        have n0_ := Aside0.mk (Kd.Q_drew HO_10.out)
        have n1_ := Aside0.mk (below_drew1 HB.out)
        clear HO_10 HB
        have HO_10 := n0_; have HB := n1_
        clear n0_ n1_
        have p118 : 0 ≤ ((rd x10_1 0) : Int) := ofd
        have q118 : (rd x10_1 0) < (l0.length : Int) := ofd
        obtain ⟨ad118, e118, hx118_0⟩ := Kd.at_int HR0.out (rd x10_1 0) p118 q118
        have hw118_0 := hx118_0
        cases e118
        replace hx118_0 := (HB.out.cell (World.block_lt_of_cell? w _ hx118_0)).trans hx118_0
        replace p118 := eq_true p118
        replace q118 := eq_true q118
        refine start_ (n := 12) (S := fun w' => w'.cell? (ad118.add ((rd x10_1 0)).toNat) = some (.int .u32 (rd l0 (rd x10_1 0)))) (ds := []) #[false, false, false, false, false, false, false, false, false, false, false, false] (by kernel_rfl) rfl rfl (((HB.out.cell (World.block_lt_of_cell? w _ hw118_0)).trans hw118_0)) (fun hHeld => ?_); refine with_tabW rib_graph_way.tab13 rib_graph_way.bits13 (fun HT_ HW_ => ?_)
        replace HM := Aside0.mk (MapIs.drew HM.out)
        generalize wr.drew = w26 at HO_10 HB HM hx118_0 hHeld ⊢
        refine pr 0 49 HT_ ?_
        refine pr 1 50 HT_ ?_
        refine pr 2 51 HT_ ?_
        refine pr 4 53 HT_ ?_
        refine pr 5 54 HT_ ?_
        refine pr 11 60 HT_ ?_
        refine tr 3 52 HT_ HW_ hHeld ?_
        refine on 6 (some 55) HT_ (fun K hK => ?_)
        refine gS Try.func67 #[.int .i64 a2] ?_
        with_reducible refine (rib_one.calls a2 t119 _ A23.out).mono ?_
        rintro e w' ⟨rfl, ⟨nd, rfl⟩⟩
        refine ⟨_, rfl, ?_⟩
        refine hK.out _ _ (((HB.out.cell (World.block_lt_of_cell? w _ hw118_0)).trans hw118_0)) (fun hHeld => ?_)
        clear hK K
        refine nr (some 55) ?_
        refine pr 7 56 HT_ ?_
        refine pr 8 57 HT_ ?_
        refine on 9 (some 58) HT_ (fun K hK => ?_)
        refine gS Try.func74 #[.int .u32 (Go.bits .and .u32 (rd l0 (rd x10_1 0)) (Go.bits .or .u32 a3 t119))] ?_
        with_reducible refine (rib_set_list.calls k1 (Go.bits .and .u32 (rd l0 (rd x10_1 0)) (Go.bits .or .u32 a3 t119)) t120 _ A24.out).mono ?_
        rintro e w27 ⟨v121, rfl, ho0, hb⟩
        have m_ := Aside0.mk (MapIs.below (by (with_reducible repeat (first | apply MapIs.alloc | apply MapIs.drewN | apply MapIs.drew)); exact HM.out) hb)
        clear HM
        have HM := m_
        clear m_
        refine ⟨_, rfl, ?_⟩
        have n0_ := Aside0.mk (Kd.Q_elder' (by (with_reducible repeat (first | apply Kd.Q_alloc | apply Kd.Q_drewN | apply Kd.Q_drew)); exact HO_10.out) (Kd.R_base ho0) hb)
        have n1_ := Aside0.mk (Kd.R_lower (Kd.R_new' ho0 (Kd.Q_lt (by (with_reducible repeat (first | apply Kd.Q_alloc | apply Kd.Q_drewN | apply Kd.Q_drew)); exact HO_10.out))) (below_size (bl HB)))
        have n2_ := Aside0.mk (below_step (bl HB) hb)
        clear HO_10 HB
        have HO_10 := n0_; have HO122 := n1_; have HB := n2_
        clear n0_ n1_ n2_
        (try clear hb)
        (try clear hb2)
        (try clear hk)
        (try clear hi)
        (try clear ho0)
        obtain ⟨Ao28, co28, eo28⟩ := Kd.R_slice HO122.out
        (first | subst eo28 | (injection eo28 with f1_ f2_ f3_; have f4_ := f1_.symm; have f5_ := f3_.symm; clear f1_ f2_ f3_; subst f4_; subst f5_))
        refine hK.out _ _ (((HB.out.cell (World.block_lt_of_cell? w _ hw118_0)).trans hw118_0)) (fun hHeld => ?_)
        clear hK K
        refine nr (some 58) ?_
        refine pr 10 59 HT_ ?_
        refine dn HT_ ?_
        try go_wp2
        go_loopg [10, 60] k1 (fun kq v10 v60 w' => ∃ (x9_2 : MapT) (x10_2 : List Int) (x60_2 : Int), v60 = .int .i64 x60_2 ∧ Aside0 (rib_graph_way.l2 kq l0 a1 a2 a3 x9_2 x10_2 (rd x10_1 0) t120 (t120.length : Int) x60_2 = some r) ∧ Aside0 (kq ≤ k1) ∧ Aside0 (Kd.Q (Kd.int .i64) 3 w' w.heap.size (fun k_ => some k_ ≠ ((.slice Ao28 t120.length co28) : Value).ownBlock) v10 x10_2) ∧ Aside0 (Kd.R (Kd.int .i64) 3 w' w.heap.size (fun k_ => some k_ ≠ (v10 : Value).ownBlock) (.slice Ao28 t120.length co28) t120) ∧ Aside0 (Below w.heap.size w w') ∧ Aside0 (MapIs w' w.heap.size x9_2))
        case atStart => exact ⟨(x9_1), (x10_1), (0), (by first | rfl | (simp; done) | (simp [*]; done)), H', ⟨Nat.le_refl _⟩, ⟨by (with_reducible repeat (first | apply Kd.Q_alloc | apply Kd.Q_drewN | apply Kd.Q_drew)); exact Kd.Q_mono HO_10.out (fun _ hk => hk.2)⟩, ⟨by (with_reducible repeat (first | apply Kd.R_alloc | apply Kd.R_drewN | apply Kd.R_drew)); exact Kd.R_mono HO122.out (fun _ hk => hk.2)⟩, ⟨bl HB⟩, ⟨(by (with_reducible repeat (first | apply MapIs.alloc | apply MapIs.drewN | apply MapIs.drew)); exact HM.out)⟩⟩
        case round =>
         clear H'
         try clear c1
         try clear p1
         try clear q1
         try clear hx1
         try clear qi1
         try clear c2
         try clear p2
         try clear c6
         try clear c7
         try clear c8
         try clear c8b0
         try clear c8b1
         try clear c9
         try clear c9b0
         try clear c9b1
         try clear c10
         try clear c10b0
         try clear c10b1
         try clear p10
         try clear q10
         try clear hx10
         try clear qi10
         try clear p11
         try clear q11
         try clear hx11
         try clear c12
         try clear c14
         try clear c14b0
         try clear c14b1
         try clear c19
         try clear c21
         try clear c21b0
         try clear c22
         try clear c22b0
         try clear hx109_0
         try clear hx118_0
         try clear p1
         try clear p10
         try clear p109
         try clear p118
         try clear p2
         try clear q1
         try clear q10
         try clear q109
         try clear q118
         obtain ⟨x9_2, x10_2, x60_2, rfl, HA, HK2, HO_10, HO_58, HB, HM⟩ := hrel
         cases gk with
         | zero => exact absurd HA.out (by simp [rib_graph_way.l2])
         | succ k2 =>
          have H := HA.out
          clear HA
          simp only [rib_graph_way.l2] at H
          by_cases c29 : x60_2 < (t120.length : Int)
          ·rw [if_pos c29] at H
           have c29b0 : decide (x60_2 < (t120.length : Int)) = true := decide_eq_true c29
           clear c29
           by_cases c30 : 0 ≤ x60_2
           ·rw [if_pos c30] at H
            have c30b0 : decide (0 ≤ x60_2) = true := decide_eq_true c30
            clear c30
            by_cases c31 : x60_2 < (t120.length : Int)
            ·rw [if_pos c31] at H
             have c31b0 : decide (x60_2 < (t120.length : Int)) = true := decide_eq_true c31
             clear c31
             replace H := Option.bind_eq_some_iff.mp H
             obtain ⟨⟨t127, t128⟩, A320, H⟩ := H
             replace H : (if t128 = true then (rib_graph_way.l2 k2 l0 a1 a2 a3 x9_2 x10_2 (rd x10_1 0) t120 (t120.length : Int) (wrap64 (x60_2 + 1))) else ((map_put.f x9_2 (rd t120 x60_2) (rd x10_1 0)).bind fun t129 => (if x10_2.length < 17592186044416 then (rib_graph_way.l2 k2 l0 a1 a2 a3 t129 (x10_2 ++ [rd t120 x60_2]) (rd x10_1 0) t120 (t120.length : Int) (wrap64 (x60_2 + 1))) else (none)))) = some r := H
             have A32 := Aside0.mk A320
             clear A320
             by_cases c33 : t128 = true
             ·subst c33
              have H1 : (rib_graph_way.l2 k2 l0 a1 a2 a3 x9_2 x10_2 (rd x10_1 0) t120 (t120.length : Int) (wrap64 (x60_2 + 1))) = some r := by rw [if_pos rfl] at H; exact H
              clear H
              have H := H1
              clear H1
              have H' := Aside0.mk H
              clear H
              have p126 : 0 ≤ (x60_2 : Int) := ofd
              have q126 : x60_2 < (t120.length : Int) := ofd
              obtain ⟨ad126, e126, hx126_0⟩ := Kd.at_int (Kd.R_reads' HO_58.out).2.2 x60_2 p126 q126
              cases e126
              replace p126 := eq_true p126
              replace q126 := eq_true q126
              go_wp2_with (first | ((with_reducible refine lay_has _ rfl (.tmp 65) (.tmp 66) rfl w.heap.size x9_2 (rd t120 x60_2) t127 true ?hM A32.out ?hm ?hx ?_); (case hM => exact (by (with_reducible repeat (first | apply MapIs.alloc | apply MapIs.drewN | apply MapIs.drew)); exact HM.out)); (case hm => rfl); (case hx => rfl)))
              go_roundg k2
              case measure => have := HK1.out; have := HK2.out; omega
              case rel => exact ⟨(x9_2), (x10_2), (wrap64 (x60_2 + 1)), (by first | rfl | (simp; done) | (simp [*]; done)), H', ⟨by have := HK1.out; have := HK2.out; omega⟩, ⟨by (with_reducible repeat (first | apply Kd.Q_alloc | apply Kd.Q_drewN | apply Kd.Q_drew)); exact HO_10.out⟩, ⟨rl HO_58⟩, ⟨bl HB⟩, ⟨(by (with_reducible repeat (first | apply MapIs.alloc | apply MapIs.drewN | apply MapIs.drew)); exact HM.out)⟩⟩
             ·replace c33 := Bool.eq_false_iff.mpr c33
              subst c33
              have H1 : ((map_put.f x9_2 (rd t120 x60_2) (rd x10_1 0)).bind fun t129 => (if x10_2.length < 17592186044416 then (rib_graph_way.l2 k2 l0 a1 a2 a3 t129 (x10_2 ++ [rd t120 x60_2]) (rd x10_1 0) t120 (t120.length : Int) (wrap64 (x60_2 + 1))) else (none))) = some r := by rw [if_neg (show ¬ (false = true) by decide)] at H; exact H
              clear H
              have H := H1
              clear H1
              replace H := Option.bind_eq_some_iff.mp H
              obtain ⟨t129, A340, H⟩ := H
              replace H : (if x10_2.length < 17592186044416 then (rib_graph_way.l2 k2 l0 a1 a2 a3 t129 (x10_2 ++ [rd t120 x60_2]) (rd x10_1 0) t120 (t120.length : Int) (wrap64 (x60_2 + 1))) else (none)) = some r := H
              have A34 := Aside0.mk A340
              clear A340
              by_cases c35 : x10_2.length < 17592186044416
              ·rw [if_pos c35] at H
               have LMc35 := Aside0.mk c35
               clear c35
               obtain ⟨y130, hy130⟩ : ∃ y_ : List Int, y_ = (x10_2 ++ [rd t120 x60_2]) := ⟨_, rfl⟩
               replace H : (rib_graph_way.l2 k2 l0 a1 a2 a3 t129 y130 (rd x10_1 0) t120 (t120.length : Int) (wrap64 (x60_2 + 1))) = some r := by first | (rw [hy130]; with_reducible exact H) | (have H2_ := (Option.bind_some _ _).symm.trans H; rw [hy130]; with_reducible exact H2_) | (have H2_ := (Option.bind_some _ _).symm.trans H; with_reducible exact H2_) | with_reducible exact H | (rw [hy130]; exact H) | exact H
               have Ny130 := Aside0.mk hy130
               clear hy130
               have H' := Aside0.mk H
               clear H
               have p126 : 0 ≤ (x60_2 : Int) := ofd
               have q126 : x60_2 < (t120.length : Int) := ofd
               obtain ⟨ad126, e126, hx126_0⟩ := Kd.at_int (Kd.R_reads' HO_58.out).2.2 x60_2 p126 q126
               cases e126
               replace p126 := eq_true p126
               replace q126 := eq_true q126
               go_wp2_with (first | ((with_reducible refine lay_has _ rfl (.tmp 65) (.tmp 66) rfl w.heap.size x9_2 (rd t120 x60_2) t127 false ?hM A32.out ?hm ?hx ?_); (case hM => exact (by (with_reducible repeat (first | apply MapIs.alloc | apply MapIs.drewN | apply MapIs.drew)); exact HM.out)); (case hm => rfl); (case hx => rfl)) | ((with_reducible refine lay_put _ rfl (.tmp 72) (.tmp 73) (.tmp 74) (Or.inl rfl) w.heap.size x9_2 t129 (rd t120 x60_2) (rd x10_1 0) ?hM A34.out ?hm ?hx ?hy ?_); (case hM => exact (by (with_reducible repeat (first | apply MapIs.alloc | apply MapIs.drewN | apply MapIs.drew)); exact HM.out)); (case hm => rfl); (case hx => rfl); (case hy => rfl); intro w5 hm_ hg_; have q_ := Aside0.mk (Q_map (by (with_reducible repeat (first | apply MapIs.alloc | apply MapIs.drewN | apply MapIs.drew)); exact HM.out) (by (with_reducible repeat (first | apply Kd.Q_alloc | apply Kd.Q_drewN | apply Kd.Q_drew)); exact HO_10.out) hg_); have r_ := Aside0.mk (R_map (by (with_reducible repeat (first | apply MapIs.alloc | apply MapIs.drewN | apply MapIs.drew)); exact HM.out) (rl HO_58) hg_); have hb_ := Aside0.mk (below_map (bl HB) hg_ (Nat.le_refl _) (MapIs.lt (by (with_reducible repeat (first | apply MapIs.alloc | apply MapIs.drewN | apply MapIs.drew)); exact HM.out))); have m_ := Aside0.mk hm_; clear HB HM HO_10 HO_58 hm_ hg_; have HB := hb_; have HM := m_; have HO_10 := q_; have HO_58 := r_; clear hb_ m_ q_ r_) | ((with_reducible refine gate_builtin (b := .append) (xs := #[.tmp 75, .tmp 77]) rfl ?_); at_builtin; refine Kd.Q_append (Kd.int .i64) (w0 := w) w.heap.size rfl (.tmp 75) (.tmp 77) 34 3 (.int .i64 0) 8 rfl Try.underlying34 info3 rfl (by decide) (by omega) u10 x10_2 (rd t120 x60_2) [.int .i64 (rd t120 x60_2)] (fun k_ => some k_ ≠ (.slice (some ad126) t120.length co28 : Value).ownBlock) (fun _ => False) rfl rfl ?aP (fun _ hk => hk.elim) ?aF ?aO ?aB ?aS ?aL ?_; (case aP => exact rfl); (case aB => exact (bl HB)); (case aF => exact (fun k_ hk => Kd.fresh' (Kd.R_lt (rl HO_58)) k_ hk)); (case aO => exact (by (with_reducible repeat (first | apply Kd.Q_alloc | apply Kd.Q_drewN | apply Kd.Q_drew)); exact HO_10.out)); (case aS => exact (below_size (bl HB))); (case aL => have := LMc35.out; omega); intro v131 w36 ho hb hg hat; have m_ := Aside0.mk (MapIs.kept_Q hg (by (with_reducible repeat (first | apply MapIs.alloc | apply MapIs.drewN | apply MapIs.drew)); exact HM.out) (by (with_reducible repeat (first | apply Kd.Q_alloc | apply Kd.Q_drewN | apply Kd.Q_drew)); exact HO_10.out)); clear HM; have HM := m_; clear m_; rw [← Ny130.out] at ho; have n0_ := Aside0.mk (Kd.R_after (ok := (fun _ => True)) (by (with_reducible repeat (first | apply Kd.R_alloc | apply Kd.R_drewN | apply Kd.R_drew)); exact Kd.R_mono HO_58.out (fun _ hk => ⟨trivial, hk⟩)) hg hat); have n1_ := Aside0.mk (hb); have n2_ := Aside0.mk (ho); clear HO_58; clear HB; clear HO_10; have HO_58 := n0_; have HB := n1_; have HO132 := n2_; clear n0_ n1_ n2_; clear ho hb hg hat))
               go_roundg k2
               case measure => have := HK1.out; have := HK2.out; omega
               case rel => exact ⟨(t129), (y130), (wrap64 (x60_2 + 1)), (by first | rfl | (simp; done) | (simp [*]; done)), H', ⟨by have := HK1.out; have := HK2.out; omega⟩, ⟨by (with_reducible repeat (first | apply Kd.Q_alloc | apply Kd.Q_drewN | apply Kd.Q_drew)); exact HO132.out⟩, ⟨by (with_reducible repeat (first | apply Kd.R_alloc | apply Kd.R_drewN | apply Kd.R_drew)); exact Kd.R_mono HO_58.out (fun _ hk => hk.2)⟩, ⟨bl HB⟩, ⟨(by (with_reducible repeat (first | apply MapIs.alloc | apply MapIs.drewN | apply MapIs.drew)); exact HM.out)⟩⟩
              ·rw [if_neg c35] at H
               exact absurd H (by simp)
            ·rw [if_neg c31] at H
             exact absurd H (by simp)
           ·rw [if_neg c30] at H
            exact absurd H (by simp)
          ·rw [if_neg c29] at H
           have c29b0 : decide (x60_2 < (t120.length : Int)) = false := decide_eq_false c29
           clear c29
           by_cases c37 : 1 ≤ (x10_2.length : Int)
           ·rw [if_pos c37] at H
            have c37b0 := eq_true c37
            have c37b1 : decide (1 ≤ (x10_2.length : Int)) = true := decide_eq_true c37
            clear c37
            obtain ⟨y123, hy123⟩ : ∃ y_ : List Int, y_ = (x10_2.drop (1 : Int).toNat) := ⟨_, rfl⟩
            replace H : (rib_graph_way.l0 k2 l0 a1 a2 a3 x9_2 y123) = some r := by first | (rw [hy123]; with_reducible exact H) | (have H2_ := (Option.bind_some _ _).symm.trans H; rw [hy123]; with_reducible exact H2_) | (have H2_ := (Option.bind_some _ _).symm.trans H; with_reducible exact H2_) | with_reducible exact H | (rw [hy123]; exact H) | exact H
            have Ny123 := Aside0.mk hy123
            clear hy123
            have H' := Aside0.mk H
            clear H
            obtain ⟨Ao38, co38, eo38, _⟩ := Kd.Q_slice HO_10.out
            subst eo38
            have q39 : (1 : Int) ≤ ((x10_2.length : Int) : Int) := ofd
            obtain ⟨i039, hi039, _, hsz39, _⟩ := info_parts info3
            have hcut39 := cut_from (P := Try.prog) 34 3 .i64 Try.underlying34 hi039 1 hsz39 Ao38 x10_2.length co38 1 (by omega) q39
            have hr39 := Kd.Q_drop (k := (1 : Int).toNat) HO_10.out (by omega)
            obtain ⟨A39, hA39⟩ : ∃ A1, A1 = (if co38 = (1 : Int).toNat then Ao38 else (Ao38 : Option Addr).map (·.add ((1 : Int).toNat * 1))) := ⟨_, rfl⟩
            obtain ⟨c39, hc39⟩ : ∃ c1, c1 = co38 - (1 : Int).toNat := ⟨_, rfl⟩
            have hy39 : y123.length = x10_2.length - (1 : Int).toNat := (by rw [Ny123.out, List.length_drop])
            rw [← Ny123.out] at hr39
            rw [← hy39, ← hA39, ← hc39] at hcut39
            replace hr39 : Kd.Q (Kd.int .i64) 3 wr w.heap.size (fun k_ => some k_ ≠ (.slice Ao28 t120.length co28 : Value).ownBlock) (.slice A39 y123.length c39) y123 := (by rw [hA39, hc39, hy39]; exact hr39)
            have HE39 : Aside0 ((Value.slice A39 y123.length c39).ownBlock = (.slice Ao38 x10_2.length co38 : Value).ownBlock) := ⟨by rw [hA39]; split <;> (cases (Ao38 : Option Addr) <;> rfl)⟩
            clear hy39 hi039 hsz39 HO_10 hA39 hc39
            have HO125 := Aside0.mk hr39
            clear hr39
            replace q39 := eq_true q39
            have n_ := Aside0.mk (Kd.R_mono (ok' := fun k_ => some k_ ≠ (.slice A39 y123.length c39 : Value).ownBlock) HO_58.out (fun k_ hk => (by rw [HE39.out]; exact hk)))
            clear HO_58
            have HO_58 := n_
            clear n_
            go_wp2
            go_roundg k2
            case measure => have := HK1.out; have := HK2.out; omega
            case rel => exact ⟨(x9_2), (y123), H', ⟨by have := HK1.out; have := HK2.out; omega⟩, ⟨by (with_reducible repeat (first | apply Kd.Q_alloc | apply Kd.Q_drewN | apply Kd.Q_drew)); exact Kd.Q_mono HO125.out (fun _ hk => trivial)⟩, ⟨bl HB⟩, ⟨(by (with_reducible repeat (first | apply MapIs.alloc | apply MapIs.drewN | apply MapIs.drew)); exact HM.out)⟩⟩
           ·rw [if_neg c37] at H
            exact absurd H (by simp)
       ·rw [if_neg c22] at H
        exact absurd H (by simp)
      ·rw [if_neg c21] at H
       exact absurd H (by simp)
    ·rw [if_neg c9] at H
     exact absurd H (by simp)
   ·rw [if_neg c8] at H
    have c8b0 : decide (0 < (x10_1.length : Int)) = false := decide_eq_false c8
    have c8b1 : decide (0 < x10_1.length) = false := decide_eq_false (by omega)
    clear c8
    obtain rfl := Option.some.inj H
    obtain ⟨Ao40, co40, eo40, _⟩ := Kd.Q_slice HO_10.out
    subst eo40
    go_wp2
    go_ret
    exact ⟨_, by first | rfl | (simp [errW_none, errW_some] <;> rfl) | (simp [*, errW_none, errW_some] <;> rfl), (by first | rfl | (intro _; rfl) | simp), by first | exact Kd.R_nil _ _ _ _ _ | exact Kd.N_nil _ _ _ _ _ | exact Kd.V_nil _ _ _ _ _ | exact Kd.Q_nil _ _ _ _ _ | exact Kd.S_nil _ _ _ _ _, by repeat (first | (with_reducible first | exact HB.out | apply below_alloc | apply pw_below_drewN | apply below_drew1) | exact HB.out)⟩
end Go.Proofs.Ytdpolfflemocaaa.Rw

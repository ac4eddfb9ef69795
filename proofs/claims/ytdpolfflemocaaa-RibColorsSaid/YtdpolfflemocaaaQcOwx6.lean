/- The declarations of Owx6 that the claim Qc needs. -/
import Derived.Test.YtdpolfflemocaaaQcTkP
import Derived.Test.YtdpolfflemocaaaQcOwx0
import Derived.Test.YtdpolfflemocaaaQcOwx3
import Derived.Test.YtdpolfflemocaaaQcT1
namespace Go.Proofs.Ytdpolfflemocaaa.Own
open Go.RowKit Go.Proofs.Ytdpolfflemocaaa.Own Go.Proofs.YtdpolfflemocaaaW.PrintWords Go.Proofs.YtdpolfflemocaaaW.PrintLast Go.Proofs.YtdpolfflemocaaaW.PrintMore
attribute [local go_sem] max2_int min2_int max_two min_two max_three min_three max_four min_four
set_option linter.unusedVariables false
set_option linter.unusedSimpArgs false
mutual
def rib_graph_cliques.j0 : Nat → List Int → Int → Int → Int → Bool → Option (List Int)
  | 0, _, _, _, _, _ => none
  | k + 1, x0, x1, x2, x3, x17 => if x17 = true then (some (([x1] : List Int))) else ((rib_set_list.f k x2).bind fun t142 => (rib_graph_cliques.l0 k x0 x1 x2 x3 ([] : List Int) t142 (t142.length : Int) 0))
def rib_graph_cliques.l0 : Nat → List Int → Int → Int → Int → List Int → List Int → Int → Int → Option (List Int)
  | 0, _, _, _, _, _, _, _, _ => none
  | k + 1, x0, x1, x2, x3, x9, x21, x22, x23 => if x23 < x22 then (if 0 ≤ x23 then (if x23 < (x21.length : Int) then ((rib_one.f (rd x21 x23)).bind fun t146 => (if 0 ≤ (rd x21 x23) then (if (rd x21 x23) < (x0.length : Int) then ((rib_graph_cliques.f k x0 (Go.bits .or .u32 x1 t146) (Go.bits .and .u32 x2 (rd x0 (rd x21 x23))) (Go.bits .and .u32 x3 (rd x0 (rd x21 x23)))).bind fun t149 => (if x9.length + t149.length < 35184372088832 then ((rib_one.f (rd x21 x23)).bind fun t155 => ((rib_one.f (rd x21 x23)).bind fun t156 => (rib_graph_cliques.l0 k x0 x1 (Go.bits .andNot .u32 x2 t155) (Go.bits .or .u32 x3 t156) (x9 ++ t149) x21 x22 (wrap64 (x23 + 1))))) else (none))) else (none)) else (none))) else (none)) else (none)) else (some x9)
def rib_graph_cliques.f : Nat → List Int → Int → Int → Int → Option (List Int)
  | 0, _, _, _, _ => none
  | k + 1, l0, a1, a2, a3 => if a2 = 0 then (rib_graph_cliques.j0 k l0 a1 a2 a3 (a3 == 0)) else (rib_graph_cliques.j0 k l0 a1 a2 a3 false)
end
def rib_graph_cliques.T7 : Bool × List (List Nat × List Nat) := (true, [([], []), ([], []), ([], []), ([], []), ([3], [3]), ([2, 4], [2, 4]), ([], []), ([], []), ([], []), ([7, 8], [7, 8]), ([9], [9]), ([6, 10], [6, 10]), ([], []), ([], []), ([], []), ([13, 14], [13, 14]), ([15], [15]), ([12, 16], [12, 16]), ([1, 5, 11, 17, 4], [1, 5, 11, 17]), ([0, 18, 18], [0, 18]), ([19, 19, 0, 1, 2, 3, 4, 5, 6, 7, 8, 9, 10, 11, 12, 13, 14, 15, 16, 17, 18, 19], [0, 19])])
def rib_graph_cliques.B7 : List Nat := [0, 0, 0, 0, 8, 28, 0, 0, 0, 384, 896, 1984, 0, 0, 0, 24576, 57344, 126976, 262142, 524287, 1048575]
theorem rib_graph_cliques.tab7 : rtab .any (opsOf Try.f88 7) = rib_graph_cliques.T7 := by kernel_rfl
theorem rib_graph_cliques.bits7 : waitsOk rib_graph_cliques.T7.2 rib_graph_cliques.B7 = true := by kernel_rfl
set_option maxHeartbeats 8000000 in
set_option maxRecDepth 100000 in
theorem rib_graph_cliques.calls (k : Nat) : ∀ (A0 : Option Addr) (c0 : Nat) (l0 : List Int) (a1 : Int) (a2 : Int) (a3 : Int) (r : List Int) (w : World) (hr0 : Kd.C (Kd.int .u32) w A0 l0.length l0) (hc0 : l0.length ≤ c0) (h : rib_graph_cliques.f k l0 a1 a2 a3 = some r),
  Calls Try.prog 88 #[.slice A0 l0.length c0, .int .u32 a1, .int .u32 a2, .int .u32 a3] w fun e w' => ∃ v0_ : Value, e = .returned (v0_) ∧ Kd.R (Kd.int .u32) 86 w' w.heap.size (fun _ => True) v0_ r ∧ Below w.heap.size w w' := by
 induction k using Nat.strongRecOn with
 | _ k ih =>
 intro A0 c0 l0 a1 a2 a3 r w hr0 hc0 h
 cases k with
 | zero => exact absurd h (by simp [rib_graph_cliques.f])
 | succ k =>
 simp only [rib_graph_cliques.f] at h
 have HR0 := Aside0.mk hr0
 have HC0 := Aside0.mk hc0
 clear hr0 hc0
 have HB := Aside0.mk (Below.refl w.heap.size w)
 have H : (if a2 = 0 then (rib_graph_cliques.j0 k l0 a1 a2 a3 (a3 == 0)) else (rib_graph_cliques.j0 k l0 a1 a2 a3 false)) = some r := h
 clear h
 have HC5 := Aside0.mk H
 clear H
 go_enter Try.func88, Try.ntmps88
 go_upto_region 1 with (fail)
 go_cut [17] (fun v17 wc => ∃ (kq : Nat) (x17_4 : Bool), v17 = .bool x17_4 ∧ Aside0 (rib_graph_cliques.j0 kq l0 a1 a2 a3 x17_4 = some r) ∧ Aside0 (kq ≤ k) ∧ Aside0 (Below w.heap.size w wc))
 case first =>
  have H := HC5.out
  clear HC5
  by_cases c6 : a2 = 0
  ·rw [if_pos c6] at H
   have c6b0 : (a2 == 0) = true := beq_iff_eq.mpr c6
   have c6b1 : (a2 != 0) = false := bne_eq_false_iff_eq.mpr c6
   clear c6
   (first | rw [c6b0] | (simp only [i64_w, i32_w]; rw [c6b0]) | skip)
   have H' := Aside0.mk H
   clear H
   go_wp2
   go_meet
   case rel => exact ⟨_, ((a3 == 0)), (by first | rfl | (simp; done) | (simp [*]; done)), H', ⟨by first | omega | exact Nat.le_refl _⟩, ⟨bl HB⟩⟩
  ·rw [if_neg c6] at H
   have c6b0 : (a2 == 0) = false := beq_eq_false_iff_ne.mpr c6
   have c6b1 : (a2 != 0) = true := bne_iff_ne.mpr c6
   (first | rw [c6b0] | (simp only [i64_w, i32_w]; rw [c6b0]) | skip)
   have H' := Aside0.mk H
   clear H
   go_wp2
   go_meet
   case rel => exact ⟨_, (false), (by first | rfl | (simp; done) | (simp [*]; done)), H', ⟨by first | omega | exact Nat.le_refl _⟩, ⟨bl HB⟩⟩
 case rest =>
  clear HC5
  try clear p2
  try clear c6
  try clear c6b0
  try clear c6b1
  obtain ⟨kq, x17_4, rfl, HA, HJ4, HB⟩ := hcut
  cases kq with
  | zero => exact absurd HA.out (by simp [rib_graph_cliques.j0])
  | succ kj4 =>
   have H := HA.out
   clear HA
   simp only [rib_graph_cliques.j0] at H
   by_cases c7 : x17_4 = true
   ·subst c7
    have H1 : (some (([a1] : List Int))) = some r := by rw [if_pos rfl] at H; exact H
    clear H
    have H := H1
    clear H1
    obtain ⟨y139, hy139⟩ : ∃ y_ : List Int, y_ = (([a1] : List Int)) := ⟨_, rfl⟩
    replace H : (some y139) = some r := by first | (rw [hy139]; with_reducible exact H) | (have H2_ := (Option.bind_some _ _).symm.trans H; rw [hy139]; with_reducible exact H2_) | (have H2_ := (Option.bind_some _ _).symm.trans H; with_reducible exact H2_) | with_reducible exact H | (rw [hy139]; exact H) | exact H
    have Ny139 := Aside0.mk hy139
    clear hy139
    obtain rfl := Option.some.inj H
    go_wp2_with (first | ((with_reducible refine gate_dst (N := 19) rfl ?_); refine Kd.R_lit (Kd.int .u32) _ 86 ?hg (N := 19) ?hd (xs := ([a1] : List Int)) (inner := [.int .u32 a1]) (ok := fun _ => True) (okp := fun _ => True) ?hr ?hp (fun _ hk => hk) trivial (Below.refl _ _) (Nat.le_refl _) (by simp) ?_; (case hd => rfl); (case hg => rfl); (case hr => first | (go_simp; done) | (go_simp; rfl)); (case hp => exact (Reps.one (show Kd.M (Kd.int .u32) _ _ _ a1 [.int .u32 a1] from rfl) (Reps.none _ _))); intro v140 w8 ho9 hb hg_ hnew_; clear hg_ hnew_; (first | rw [← Ny139.out] at ho9 | (simp only [Int.reduceToNat] at ho9; rw [← Ny139.out] at ho9)); have n0_ := Aside0.mk (Kd.R_lower ho9 (below_size (bl HB))); have n1_ := Aside0.mk (below_step (bl HB) hb); clear HB; have HO141 := n0_; have HB := n1_; clear n0_ n1_; clear hb ho9))
    go_ret
    exact ⟨_, by first | rfl | (simp [errW_none, errW_some] <;> rfl) | (simp [*, errW_none, errW_some] <;> rfl), by (with_reducible repeat (first | apply Kd.R_alloc | apply Kd.R_drewN | apply Kd.R_drew)); exact HO141.out, by repeat (first | (with_reducible first | exact HB.out | apply below_alloc | apply pw_below_drewN | apply below_drew1) | exact HB.out)⟩
   ·replace c7 := Bool.eq_false_iff.mpr c7
    subst c7
    have H1 : ((rib_set_list.f kj4 a2).bind fun t142 => (rib_graph_cliques.l0 kj4 l0 a1 a2 a3 ([] : List Int) t142 (t142.length : Int) 0)) = some r := by rw [if_neg (show ¬ (false = true) by decide)] at H; exact H
    clear H
    have H := H1
    clear H1
    replace H := Option.bind_eq_some_iff.mp H
    obtain ⟨t142, A100, H⟩ := H
    replace H : (rib_graph_cliques.l0 kj4 l0 a1 a2 a3 ([] : List Int) t142 (t142.length : Int) 0) = some r := H
    have A10 := Aside0.mk A100
    clear A100
    have H' := Aside0.mk H
    clear H
    go_wp2_with (first | ((with_reducible refine gate_callee (f := 74) rfl ?_); refine gL 21 Try.func74 #[.int .u32 a2] ?_; (with_reducible refine (rib_set_list.calls kj4 a2 t142 _ A10.out).mono ?_); rintro e w11 ⟨v143, rfl, ho0, hb⟩; refine ⟨_, rfl, ?_⟩; have n0_ := Aside0.mk (Kd.R_lower ho0 (below_size (bl HB))); have n1_ := Aside0.mk (below_step (bl HB) hb); clear HB; have HO144 := n0_; have HB := n1_; clear n0_ n1_; (try clear hb); (try clear hb2); (try clear hk); (try clear hi); (try clear ho0); obtain ⟨Ao12, co12, eo12⟩ := Kd.R_slice HO144.out; subst eo12))
    go_loopg [2, 3, 9, 23] kj4 (fun kq v2 v3 v9 v23 w' => ∃ (x2_2 : Int) (x3_2 : Int) (x9_2 : List Int) (x23_2 : Int), v2 = .int .u32 x2_2 ∧ v3 = .int .u32 x3_2 ∧ v23 = .int .i64 x23_2 ∧ Aside0 (rib_graph_cliques.l0 kq l0 a1 x2_2 x3_2 x9_2 t142 (t142.length : Int) x23_2 = some r) ∧ Aside0 (kq ≤ kj4) ∧ Aside0 (Kd.R (Kd.int .u32) 86 w' w.heap.size (fun _ => True) v9 x9_2) ∧ Aside0 (Kd.R (Kd.int .i64) 3 w' w.heap.size (fun _ => True) (.slice Ao12 t142.length co12) t142) ∧ Aside0 (Below w.heap.size w w'))
    case atStart => exact ⟨(a2), (a3), (([] : List Int)), (0), (by first | rfl | (simp; done) | (simp [*]; done)), (by first | rfl | (simp; done) | (simp [*]; done)), (by first | rfl | (simp; done) | (simp [*]; done)), H', ⟨Nat.le_refl _⟩, ⟨by first | exact Kd.R_nil _ _ _ _ _ | exact Kd.N_nil _ _ _ _ _ | exact Kd.V_nil _ _ _ _ _ | exact Kd.Q_nil _ _ _ _ _ | exact Kd.S_nil _ _ _ _ _⟩, ⟨rl HO144⟩, ⟨bl HB⟩⟩
    case round =>
     clear H'
     try clear p2
     try clear c6
     try clear c6b0
     try clear c6b1
     try clear c7
     try clear c8
     try clear p2
     obtain ⟨x2_2, x3_2, x9_2, x23_2, rfl, rfl, rfl, HA, HK2, HO_9, HO_21, HB⟩ := hrel
     cases gk with
     | zero => exact absurd HA.out (by simp [rib_graph_cliques.l0])
     | succ k2 =>
      have H := HA.out
      clear HA
      simp only [rib_graph_cliques.l0] at H
      by_cases c13 : x23_2 < (t142.length : Int)
      ·rw [if_pos c13] at H
       have c13b0 : decide (x23_2 < (t142.length : Int)) = true := decide_eq_true c13
       clear c13
       by_cases c14 : 0 ≤ x23_2
       ·rw [if_pos c14] at H
        have c14b0 : decide (0 ≤ x23_2) = true := decide_eq_true c14
        clear c14
        by_cases c15 : x23_2 < (t142.length : Int)
        ·rw [if_pos c15] at H
         have c15b0 : decide (x23_2 < (t142.length : Int)) = true := decide_eq_true c15
         clear c15
         replace H := Option.bind_eq_some_iff.mp H
         obtain ⟨t146, A160, H⟩ := H
         replace H : (if 0 ≤ (rd t142 x23_2) then (if (rd t142 x23_2) < (l0.length : Int) then ((rib_graph_cliques.f k2 l0 (Go.bits .or .u32 a1 t146) (Go.bits .and .u32 x2_2 (rd l0 (rd t142 x23_2))) (Go.bits .and .u32 x3_2 (rd l0 (rd t142 x23_2)))).bind fun t149 => (if x9_2.length + t149.length < 35184372088832 then ((rib_one.f (rd t142 x23_2)).bind fun t155 => ((rib_one.f (rd t142 x23_2)).bind fun t156 => (rib_graph_cliques.l0 k2 l0 a1 (Go.bits .andNot .u32 x2_2 t155) (Go.bits .or .u32 x3_2 t156) (x9_2 ++ t149) t142 (t142.length : Int) (wrap64 (x23_2 + 1))))) else (none))) else (none)) else (none)) = some r := H
         have A16 := Aside0.mk A160
         clear A160
         by_cases c17 : 0 ≤ (rd t142 x23_2)
         ·rw [if_pos c17] at H
          have c17b0 : decide (0 ≤ (rd t142 x23_2)) = true := decide_eq_true c17
          clear c17
          by_cases c18 : (rd t142 x23_2) < (l0.length : Int)
          ·rw [if_pos c18] at H
           have c18b0 : decide ((rd t142 x23_2) < (l0.length : Int)) = true := decide_eq_true c18
           clear c18
           replace H := Option.bind_eq_some_iff.mp H
           obtain ⟨t149, A190, H⟩ := H
           replace H : (if x9_2.length + t149.length < 35184372088832 then ((rib_one.f (rd t142 x23_2)).bind fun t155 => ((rib_one.f (rd t142 x23_2)).bind fun t156 => (rib_graph_cliques.l0 k2 l0 a1 (Go.bits .andNot .u32 x2_2 t155) (Go.bits .or .u32 x3_2 t156) (x9_2 ++ t149) t142 (t142.length : Int) (wrap64 (x23_2 + 1))))) else (none)) = some r := H
           have A19 := Aside0.mk A190
           clear A190
           by_cases c20 : x9_2.length + t149.length < 35184372088832
           ·rw [if_pos c20] at H
            have LMc20 := Aside0.mk c20
            clear c20
            obtain ⟨y152, hy152⟩ : ∃ y_ : List Int, y_ = (x9_2 ++ t149) := ⟨_, rfl⟩
            replace H : ((rib_one.f (rd t142 x23_2)).bind fun t155 => ((rib_one.f (rd t142 x23_2)).bind fun t156 => (rib_graph_cliques.l0 k2 l0 a1 (Go.bits .andNot .u32 x2_2 t155) (Go.bits .or .u32 x3_2 t156) y152 t142 (t142.length : Int) (wrap64 (x23_2 + 1))))) = some r := by first | (rw [hy152]; with_reducible exact H) | (have H2_ := (Option.bind_some _ _).symm.trans H; rw [hy152]; with_reducible exact H2_) | (have H2_ := (Option.bind_some _ _).symm.trans H; with_reducible exact H2_) | with_reducible exact H | (rw [hy152]; exact H) | exact H
            have Ny152 := Aside0.mk hy152
            clear hy152
            replace H := Option.bind_eq_some_iff.mp H
            obtain ⟨t155, A210, H⟩ := H
            replace H : ((rib_one.f (rd t142 x23_2)).bind fun t156 => (rib_graph_cliques.l0 k2 l0 a1 (Go.bits .andNot .u32 x2_2 t155) (Go.bits .or .u32 x3_2 t156) y152 t142 (t142.length : Int) (wrap64 (x23_2 + 1)))) = some r := H
            have A21 := Aside0.mk A210
            clear A210
            replace H := Option.bind_eq_some_iff.mp H
            obtain ⟨t156, A220, H⟩ := H
            replace H : (rib_graph_cliques.l0 k2 l0 a1 (Go.bits .andNot .u32 x2_2 t155) (Go.bits .or .u32 x3_2 t156) y152 t142 (t142.length : Int) (wrap64 (x23_2 + 1))) = some r := H
            have A22 := Aside0.mk A220
            clear A220
            have H' := Aside0.mk H
            clear H
            have p145 : 0 ≤ (x23_2 : Int) := ofd
            have q145 : x23_2 < (t142.length : Int) := ofd
            obtain ⟨ad145, e145, hx145_0⟩ := Kd.at_int (Kd.R_reads' HO_21.out).2.2 x23_2 p145 q145
            cases e145
            replace p145 := eq_true p145
            replace q145 := eq_true q145
            try go_wp2
            have n0_ := Aside0.mk (Kd.R_drew HO_9.out)
            have n1_ := Aside0.mk (Kd.R_drew HO_21.out)
            have n2_ := Aside0.mk (below_drew1 HB.out)
            clear HO_9
            clear HO_21
            clear HB
            have HO_9 := n0_
            have HO_21 := n1_
            have HB := n2_
            clear n0_ n1_ n2_
            have p147 : 0 ≤ ((rd t142 x23_2) : Int) := ofd
            have q147 : (rd t142 x23_2) < (l0.length : Int) := ofd
            obtain ⟨ad147, e147, hx147_0⟩ := Kd.at_int HR0.out (rd t142 x23_2) p147 q147
            have hw147_0 := hx147_0
            cases e147
            replace hx147_0 := (HB.out.cell (World.block_lt_of_cell? w _ hx147_0)).trans hx147_0
            replace p147 := eq_true p147
            replace q147 := eq_true q147
            have p148 : 0 ≤ ((rd t142 x23_2) : Int) := ofd
            have q148 : (rd t142 x23_2) < (l0.length : Int) := ofd
            obtain ⟨ad148, e148, hx148_0⟩ := Kd.at_int HR0.out (rd t142 x23_2) p148 q148
            have hw148_0 := hx148_0
            obtain rfl : ad147 = ad148 := (by injection e148)
            replace hx148_0 := (HB.out.cell (World.block_lt_of_cell? w _ hx148_0)).trans hx148_0
            replace p148 := eq_true p148
            replace q148 := eq_true q148
            refine start_ (n := 21) (S := fun w' => w'.cell? (ad147.add ((rd t142 x23_2)).toNat) = some (.int .u32 (rd l0 (rd t142 x23_2))) ∧ w'.cell? (ad147.add ((rd t142 x23_2)).toNat) = some (.int .u32 (rd l0 (rd t142 x23_2)))) (ds := []) #[false, false, false, false, false, false, false, false, false, false, false, false, false, false, false, false, false, false, false, false, false] (by kernel_rfl) rfl rfl ⟨((HB.out.cell (World.block_lt_of_cell? w _ hw147_0)).trans hw147_0), ((HB.out.cell (World.block_lt_of_cell? w _ hw148_0)).trans hw148_0)⟩ (fun hHeld => ?_); refine with_tabW rib_graph_cliques.tab7 rib_graph_cliques.bits7 (fun HT_ HW_ => ?_)
            generalize wr.drew = w23 at HO_9 HO_21 HB hx147_0 hx148_0 hHeld ⊢
            refine pr 0 27 HT_ ?_
            refine pr 1 28 HT_ ?_
            refine pr 2 29 HT_ ?_
            refine pr 3 30 HT_ ?_
            refine pr 6 33 HT_ ?_
            refine pr 7 34 HT_ ?_
            refine pr 8 35 HT_ ?_
            refine pr 9 36 HT_ ?_
            refine pr 12 39 HT_ ?_
            refine pr 13 40 HT_ ?_
            refine pr 14 41 HT_ ?_
            refine pr 15 42 HT_ ?_
            refine tr 10 37 HT_ HW_ hHeld ?_
            refine pr 11 38 HT_ ?_
            refine tr 16 43 HT_ HW_ hHeld ?_
            refine pr 17 44 HT_ ?_
            refine on 4 (some 31) HT_ (fun K hK => ?_)
            refine gS Try.func67 #[.int .i64 (rd t142 x23_2)] ?_
            with_reducible refine (rib_one.calls (rd t142 x23_2) t146 _ A16.out).mono ?_
            rintro e w' ⟨rfl, ⟨nd, rfl⟩⟩
            refine ⟨_, rfl, ?_⟩
            refine hK.out _ _ ⟨((HB.out.cell (World.block_lt_of_cell? w _ hw147_0)).trans hw147_0), ((HB.out.cell (World.block_lt_of_cell? w _ hw148_0)).trans hw148_0)⟩ (fun hHeld => ?_)
            clear hK K
            refine nr (some 31) ?_
            refine pr 5 32 HT_ ?_
            refine on 18 (some 45) HT_ (fun K hK => ?_)
            refine gS Try.func88 #[.slice (some ad147) l0.length c0, .int .u32 (Go.bits .or .u32 a1 t146), .int .u32 (Go.bits .and .u32 x2_2 (rd l0 (rd t142 x23_2))), .int .u32 (Go.bits .and .u32 x3_2 (rd l0 (rd t142 x23_2)))] ?_
            with_reducible refine (ih k2 (by have := HJ4.out; have := HK2.out; omega) _ _ l0 (Go.bits .or .u32 a1 t146) (Go.bits .and .u32 x2_2 (rd l0 (rd t142 x23_2))) (Go.bits .and .u32 x3_2 (rd l0 (rd t142 x23_2))) t149 _ ?side1 ?side2 A19.out).mono ?_
            (case side1 => exact cl (Kd.C_below HR0.out (bl HB)))
            (case side2 => exact HC0.out)
            rintro e w24 ⟨v150, rfl, ho0, hb⟩
            refine ⟨_, rfl, ?_⟩
            have n0_ := Aside0.mk (Kd.R_elder' (rl HO_9) (Kd.R_base ho0) hb)
            have n1_ := Aside0.mk (Kd.R_below (rl HO_21) hb)
            have n2_ := Aside0.mk (Kd.R_lower (Kd.R_new' ho0 (Kd.R_lt (rl HO_9))) (below_size (bl HB)))
            have n3_ := Aside0.mk (below_step (bl HB) hb)
            clear HO_9
            clear HO_21
            clear HB
            have HO_9 := n0_
            have HO_21 := n1_
            have HO151 := n2_
            have HB := n3_
            clear n0_ n1_ n2_ n3_
            (try clear hb)
            (try clear hb2)
            (try clear hk)
            (try clear hi)
            (try clear ho0)
            obtain ⟨Ao26, co26, eo26⟩ := Kd.R_slice HO151.out
            (first | subst eo26 | (injection eo26 with f1_ f2_ f3_; have f4_ := f1_.symm; have f5_ := f3_.symm; clear f1_ f2_ f3_; subst f4_; subst f5_))
            refine hK.out _ _ ⟨((HB.out.cell (World.block_lt_of_cell? w _ hw147_0)).trans hw147_0), ((HB.out.cell (World.block_lt_of_cell? w _ hw148_0)).trans hw148_0)⟩ (fun hHeld => ?_)
            clear hK K
            refine nr (some 45) ?_
            refine on 19 (some 46) HT_ (fun K hK => ?_)
            refine Kd.R_append_rows_step (Kd.int .u32) (w0 := w) w.heap.size (by rfl) (.tmp 27) (.tmp 45) 75 86 (.int .u32 0) 4 rfl Try.underlying75 info86 rfl (by decide) (by omega) u9 x9_2 t149 _ _ _ (fun k_ => some k_ ≠ (.slice Ao26 t149.length co26 : Value).ownBlock) (fun _ => False) rfl rfl ?aO ?aR (fun _ _ h => h) (fun _ h => h.elim) ?aF ?aB ?aS ?aL ?_
            (case aR => exact cl ((Kd.R_reads' HO151.out).2.2))
            (case aB => exact (bl HB))
            (case aF => exact (fun k_ hk => Kd.fresh' (Kd.R_lt (rl HO151)) k_ hk))
            (case aO => exact (by (with_reducible repeat (first | apply Kd.R_alloc | apply Kd.R_drewN | apply Kd.R_drew)); exact Kd.R_mono HO_9.out (fun _ hk => hk.2)))
            (case aS => exact (below_size (bl HB)))
            (case aL => have := LMc20.out; omega)
            intro v153 w25 ho hb hg hat
            rw [← Ny152.out] at ho
            have n0_ := Aside0.mk (Kd.R_over' (rl HO_21) (Kd.R_typed (rl HO_9)) (by decide) hg)
            have n1_ := Aside0.mk (Kd.R_after (ok := (fun _ => True)) (rl HO151) hg hat)
            have n2_ := Aside0.mk (hb)
            have n3_ := Aside0.mk (ho)
            clear HO_21
            clear HO151
            clear HB
            clear HO_9
            have HO_21 := n0_
            have HO151 := n1_
            have HB := n2_
            have HO154 := n3_
            clear n0_ n1_ n2_ n3_
            clear ho hb hg hat
            refine hK.out _ _ ⟨((HB.out.cell (World.block_lt_of_cell? w _ hw147_0)).trans hw147_0), ((HB.out.cell (World.block_lt_of_cell? w _ hw148_0)).trans hw148_0)⟩ (fun hHeld => ?_)
            clear hK K
            refine nr (some 46) ?_
            refine pr 20 9 HT_ ?_
            refine dn HT_ ?_
            try go_wp2_with (first | ((with_reducible refine gate_callee (f := 67) rfl ?_); refine gL 49 Try.func67 #[.int .i64 (rd t142 x23_2)] ?_; (with_reducible refine (rib_one.calls (rd t142 x23_2) t155 _ A21.out).mono ?_); rintro e w' ⟨rfl, ⟨nd, rfl⟩⟩; refine ⟨_, rfl, ?_⟩) | ((with_reducible refine gate_callee (f := 67) rfl ?_); refine gL 53 Try.func67 #[.int .i64 (rd t142 x23_2)] ?_; (with_reducible refine (rib_one.calls (rd t142 x23_2) t156 _ A22.out).mono ?_); rintro e w' ⟨rfl, ⟨nd, rfl⟩⟩; refine ⟨_, rfl, ?_⟩))
            go_roundg k2
            case measure => have := HJ4.out; have := HK2.out; omega
            case rel => exact ⟨(Go.bits .andNot .u32 x2_2 t155), (Go.bits .or .u32 x3_2 t156), (y152), (wrap64 (x23_2 + 1)), (by first | rfl | (simp; done) | (simp [*]; done)), (by first | rfl | (simp; done) | (simp [*]; done)), (by first | rfl | (simp; done) | (simp [*]; done)), H', ⟨by have := HJ4.out; have := HK2.out; omega⟩, ⟨by (with_reducible repeat (first | apply Kd.R_alloc | apply Kd.R_drewN | apply Kd.R_drew)); exact Kd.R_mono HO154.out (fun _ hk => trivial)⟩, ⟨rl HO_21⟩, ⟨bl HB⟩⟩
           ·rw [if_neg c20] at H
            exact absurd H (by simp)
          ·rw [if_neg c18] at H
           exact absurd H (by simp)
         ·rw [if_neg c17] at H
          exact absurd H (by simp)
        ·rw [if_neg c15] at H
         exact absurd H (by simp)
       ·rw [if_neg c14] at H
        exact absurd H (by simp)
      ·rw [if_neg c13] at H
       have c13b0 : decide (x23_2 < (t142.length : Int)) = false := decide_eq_false c13
       clear c13
       obtain rfl := Option.some.inj H
       go_wp2
       go_ret
       exact ⟨_, by first | rfl | (simp [errW_none, errW_some] <;> rfl) | (simp [*, errW_none, errW_some] <;> rfl), by (with_reducible repeat (first | apply Kd.R_alloc | apply Kd.R_drewN | apply Kd.R_drew)); exact HO_9.out, by repeat (first | (with_reducible first | exact HB.out | apply below_alloc | apply pw_below_drewN | apply below_drew1) | exact HB.out)⟩
end Go.Proofs.Ytdpolfflemocaaa.Own

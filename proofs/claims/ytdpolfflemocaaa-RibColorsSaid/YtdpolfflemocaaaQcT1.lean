/- The declarations of T1 that the claim Qc needs. -/
import Derived.Test.YtdpolfflemocaaaQcTkP
import Derived.Test.YtdpolfflemocaaaQcOwx0
import Derived.Test.YtdpolfflemocaaaQcOwx3
import Derived.Test.YtdpolfflemocaaaQcT0
import Derived.Laws.BitsAllLaws
namespace Go.Proofs.Ytdpolfflemocaaa.Own
open Go.RowKit Go.Proofs.Ytdpolfflemocaaa.Own Go.Proofs.YtdpolfflemocaaaW.PrintWords Go.Proofs.YtdpolfflemocaaaW.PrintLast Go.Proofs.YtdpolfflemocaaaW.PrintMore
attribute [local go_sem] max2_int min2_int max_two min_two max_three min_three max_four min_four
set_option linter.unusedVariables false
set_option linter.unusedSimpArgs false
def rib_set_list.l0 : Nat → Int → List Int → Int → Option (List Int)
  | 0, _, _, _ => none
  | k + 1, x0, x3, x5 => if x5 < 32 then ((rib_set_has.f x0 x5).bind fun t127 => (if t127 = true then (if x3.length < 17592186044416 then (rib_set_list.l0 k x0 (x3 ++ [x5]) (wrap64 (x5 + 1))) else (none)) else (rib_set_list.l0 k x0 x3 (wrap64 (x5 + 1))))) else (some x3)
def rib_set_list.f (k : Nat) (a0 : Int) : Option (List Int) := rib_set_list.l0 k a0 ([] : List Int) 0
theorem rib_set_list.mono_l : ∀ k, (∀ y0 y1 y2, LeO (rib_set_list.l0 k y0 y1 y2) (rib_set_list.l0 (k + 1) y0 y1 y2))
 | 0 => fun _ _ _ r h => by simp [rib_set_list.l0] at h
 | k + 1 => by
  have ih0 := rib_set_list.mono_l k
  ·intro y0 y1 y2
   unfold rib_set_list.l0
   repeat' first
   | (with_reducible exact ih0 _ _ _)
   | (with_reducible exact LeO.refl _)
   | (with_reducible exact LeO.none _)
   | (with_reducible refine LeO.ite ?_ ?_)
   | (with_reducible refine LeO.bind ?_ (fun _ => ?_))
   | exact ih0 _ _ _
   | exact LeO.none _
   | refine LeO.ite ?_ ?_
   | refine LeO.bind ?_ (fun _ => ?_)
theorem rib_set_list.mono : ∀ a0 k, LeO (rib_set_list.f k a0) (rib_set_list.f (k + 1) a0) := by
  intro a0 k
  have ih0 := rib_set_list.mono_l k
  unfold rib_set_list.f
  repeat' first
      | (with_reducible exact ih0 _ _ _)
      | (with_reducible exact LeO.refl _)
      | (with_reducible exact LeO.none _)
      | (with_reducible refine LeO.ite ?_ ?_)
      | (with_reducible refine LeO.bind ?_ (fun _ => ?_))
      | exact ih0 _ _ _
      | exact LeO.none _
      | refine LeO.ite ?_ ?_
      | refine LeO.bind ?_ (fun _ => ?_)
set_option maxHeartbeats 8000000 in
set_option maxRecDepth 100000 in
theorem rib_set_list.calls (k : Nat) (a0 : Int) (r : List Int) (w : World) (h : rib_set_list.f k a0 = some r) :
  Calls Try.prog 74 #[.int .u32 a0] w fun e w' => ∃ v0_ : Value, e = .returned (v0_) ∧ Kd.R (Kd.int .i64) 3 w' w.heap.size (fun _ => True) v0_ r ∧ Below w.heap.size w w' := by
 have HB := Aside0.mk (Below.refl w.heap.size w)
 have H : (rib_set_list.l0 k a0 ([] : List Int) 0) = some r := h
 clear h
 have H' := Aside0.mk H
 clear H
 go_enter Try.func74, Try.ntmps74
 go_wp2
 go_loopg [3, 5] k (fun kq v3 v5 w' => ∃ (x3_1 : List Int) (x5_1 : Int), v5 = .int .i64 x5_1 ∧ Aside0 (rib_set_list.l0 kq a0 x3_1 x5_1 = some r) ∧ Aside0 (kq ≤ k) ∧ Aside0 (Kd.R (Kd.int .i64) 3 w' w.heap.size (fun _ => True) v3 x3_1) ∧ Aside0 (Below w.heap.size w w'))
 case atStart => exact ⟨(([] : List Int)), (0), (by first | rfl | (simp; done) | (simp [*]; done)), H', ⟨Nat.le_refl _⟩, ⟨by first | exact Kd.R_nil _ _ _ _ _ | exact Kd.N_nil _ _ _ _ _ | exact Kd.V_nil _ _ _ _ _ | exact Kd.Q_nil _ _ _ _ _ | exact Kd.S_nil _ _ _ _ _⟩, ⟨bl HB⟩⟩
 case round =>
  clear H'
  obtain ⟨x3_1, x5_1, rfl, HA, HK1, HO_3, HB⟩ := hrel
  cases gk with
  | zero => exact absurd HA.out (by simp [rib_set_list.l0])
  | succ k1 =>
   have H := HA.out
   clear HA
   simp only [rib_set_list.l0] at H
   by_cases c2 : x5_1 < 32
   ·rw [if_pos c2] at H
    have c2b0 : decide (x5_1 < 32) = true := decide_eq_true c2
    clear c2
    replace H := Option.bind_eq_some_iff.mp H
    obtain ⟨t127, A30, H⟩ := H
    replace H : (if t127 = true then (if x3_1.length < 17592186044416 then (rib_set_list.l0 k1 a0 (x3_1 ++ [x5_1]) (wrap64 (x5_1 + 1))) else (none)) else (rib_set_list.l0 k1 a0 x3_1 (wrap64 (x5_1 + 1)))) = some r := H
    have A3 := Aside0.mk A30
    clear A30
    by_cases c4 : t127 = true
    ·subst c4
     have H1 : (if x3_1.length < 17592186044416 then (rib_set_list.l0 k1 a0 (x3_1 ++ [x5_1]) (wrap64 (x5_1 + 1))) else (none)) = some r := by rw [if_pos rfl] at H; exact H
     clear H
     have H := H1
     clear H1
     by_cases c5 : x3_1.length < 17592186044416
     ·rw [if_pos c5] at H
      have LMc5 := Aside0.mk c5
      clear c5
      obtain ⟨y128, hy128⟩ : ∃ y_ : List Int, y_ = (x3_1 ++ [x5_1]) := ⟨_, rfl⟩
      replace H : (rib_set_list.l0 k1 a0 y128 (wrap64 (x5_1 + 1))) = some r := by first | (rw [hy128]; with_reducible exact H) | (have H2_ := (Option.bind_some _ _).symm.trans H; rw [hy128]; with_reducible exact H2_) | (have H2_ := (Option.bind_some _ _).symm.trans H; with_reducible exact H2_) | with_reducible exact H | (rw [hy128]; exact H) | exact H
      have Ny128 := Aside0.mk hy128
      clear hy128
      have H' := Aside0.mk H
      clear H
      go_wp2_with (first | ((with_reducible refine gate_callee (f := 60) rfl ?_); refine gL 10 Try.func60 #[.int .u32 a0, .int .i64 x5_1] ?_; (with_reducible refine (rib_set_has.calls a0 x5_1 true _ A3.out).mono ?_); rintro e w' ⟨rfl, ⟨nd, rfl⟩⟩; refine ⟨_, rfl, ?_⟩) | ((with_reducible refine gate_builtin (b := .append) (xs := #[.tmp 11, .tmp 13]) rfl ?_); at_builtin; refine Kd.R_append (Kd.int .i64) (w0 := w) w.heap.size rfl (.tmp 11) (.tmp 13) 34 3 (.int .i64 0) 8 rfl Try.underlying34 info3 rfl (by decide) (by omega) u3 x3_1 x5_1 [.int .i64 x5_1] (fun _ => True) (fun _ => False) rfl rfl ?aP (fun _ hk => hk.elim) ?aF ?aO ?aB ?aS ?aL ?_; (case aP => exact rfl); (case aB => exact (bl HB)); (case aF => exact (fun _ _ => trivial)); (case aO => exact (rl HO_3)); (case aS => exact (below_size (bl HB))); (case aL => have := LMc5.out; omega); intro v129 w6 ho hb hg hat; rw [← Ny128.out] at ho; have n0_ := Aside0.mk (hb); have n1_ := Aside0.mk (ho); clear HB; clear HO_3; have HB := n0_; have HO130 := n1_; clear n0_ n1_; clear ho hb hg hat))
      go_roundg k1
      case measure => have := HK1.out; omega
      case rel => exact ⟨(y128), (wrap64 (x5_1 + 1)), (by first | rfl | (simp; done) | (simp [*]; done)), H', ⟨by have := HK1.out; omega⟩, ⟨rl HO130⟩, ⟨bl HB⟩⟩
     ·rw [if_neg c5] at H
      exact absurd H (by simp)
    ·replace c4 := Bool.eq_false_iff.mpr c4
     subst c4
     have H1 : (rib_set_list.l0 k1 a0 x3_1 (wrap64 (x5_1 + 1))) = some r := by rw [if_neg (show ¬ (false = true) by decide)] at H; exact H
     clear H
     have H := H1
     clear H1
     have H' := Aside0.mk H
     clear H
     go_wp2_with (first | ((with_reducible refine gate_callee (f := 60) rfl ?_); refine gL 10 Try.func60 #[.int .u32 a0, .int .i64 x5_1] ?_; (with_reducible refine (rib_set_has.calls a0 x5_1 false _ A3.out).mono ?_); rintro e w' ⟨rfl, ⟨nd, rfl⟩⟩; refine ⟨_, rfl, ?_⟩))
     go_roundg k1
     case measure => have := HK1.out; omega
     case rel => exact ⟨(x3_1), (wrap64 (x5_1 + 1)), (by first | rfl | (simp; done) | (simp [*]; done)), H', ⟨by have := HK1.out; omega⟩, ⟨rl HO_3⟩, ⟨bl HB⟩⟩
   ·rw [if_neg c2] at H
    have c2b0 : decide (x5_1 < 32) = false := decide_eq_false c2
    clear c2
    obtain rfl := Option.some.inj H
    go_wp2
    go_ret
    exact ⟨_, by first | rfl | (simp [errW_none, errW_some] <;> rfl) | (simp [*, errW_none, errW_some] <;> rfl), by (with_reducible repeat (first | apply Kd.R_alloc | apply Kd.R_drewN | apply Kd.R_drew)); exact HO_3.out, by repeat (first | (with_reducible first | exact HB.out | apply below_alloc | apply pw_below_drewN | apply below_drew1) | exact HB.out)⟩
def rib_lists.l0 : Nat → List (List Int) → List Int → Int → Int → Option ((List (List Int)))
  | 0, _, _, _, _ => none
  | k + 1, x3, x6, x7, x8 => if x8 < x7 then (if 0 ≤ x8 then (if x8 < (x6.length : Int) then ((rib_set_list.f k (rd x6 x8)).bind fun t132 => (if x3.length < 5864062014805 then (rib_lists.l0 k (x3 ++ [t132]) x6 x7 (wrap64 (x8 + 1))) else (none))) else (none)) else (none)) else (some x3)
def rib_lists.f (k : Nat) (l0 : List Int) : Option ((List (List Int))) := rib_lists.l0 k ([] : List (List Int)) l0 (l0.length : Int) 0
set_option maxHeartbeats 8000000 in
set_option maxRecDepth 100000 in
theorem rib_lists.calls (k : Nat) (A0 : Option Addr) (c0 : Nat) (l0 : List Int) (r : List (List Int)) (w : World) (hr0 : Kd.C (Kd.int .u32) w A0 l0.length l0) (hc0 : l0.length ≤ c0) (h : rib_lists.f k l0 = some r) :
  Calls Try.prog 53 #[.slice A0 l0.length c0] w fun e w' => ∃ v0_ : Value, e = .returned (v0_) ∧ Kd.S (Kd.slice 3 (Kd.int .i64)) 34 w' w.heap.size (fun _ => True) v0_ r ∧ Below w.heap.size w w' := by
 have HR0 := Aside0.mk hr0
 have HC0 := Aside0.mk hc0
 clear hr0 hc0
 have HB := Aside0.mk (Below.refl w.heap.size w)
 have H : (rib_lists.l0 k ([] : List (List Int)) l0 (l0.length : Int) 0) = some r := h
 clear h
 have H' := Aside0.mk H
 clear H
 go_enter Try.func53, Try.ntmps53
 go_wp2
 go_loopg [3, 8] k (fun kq v3 v8 w' => ∃ (x3_1 : List (List Int)) (x8_1 : Int), v8 = .int .i64 x8_1 ∧ Aside0 (rib_lists.l0 kq x3_1 l0 (l0.length : Int) x8_1 = some r) ∧ Aside0 (kq ≤ k) ∧ Aside0 (Kd.S (Kd.slice 3 (Kd.int .i64)) 34 w' w.heap.size (fun _ => True) v3 x3_1) ∧ Aside0 (Below w.heap.size w w'))
 case atStart => exact ⟨(([] : List (List Int))), (0), (by first | rfl | (simp; done) | (simp [*]; done)), H', ⟨Nat.le_refl _⟩, ⟨by first | exact Kd.S_nil _ _ _ _ _ | exact Kd.N_nil _ _ _ _ _ | exact Kd.V_nil _ _ _ _ _ | exact Kd.Q_nil _ _ _ _ _ | exact Kd.R_nil _ _ _ _ _⟩, ⟨bl HB⟩⟩
 case round =>
  clear H'
  obtain ⟨x3_1, x8_1, rfl, HA, HK1, HO_3, HB⟩ := hrel
  cases gk with
  | zero => exact absurd HA.out (by simp [rib_lists.l0])
  | succ k1 =>
   have H := HA.out
   clear HA
   simp only [rib_lists.l0] at H
   by_cases c2 : x8_1 < (l0.length : Int)
   ·rw [if_pos c2] at H
    have c2b0 : decide (x8_1 < (l0.length : Int)) = true := decide_eq_true c2
    clear c2
    by_cases c3 : 0 ≤ x8_1
    ·rw [if_pos c3] at H
     have c3b0 : decide (0 ≤ x8_1) = true := decide_eq_true c3
     clear c3
     by_cases c4 : x8_1 < (l0.length : Int)
     ·rw [if_pos c4] at H
      have c4b0 : decide (x8_1 < (l0.length : Int)) = true := decide_eq_true c4
      clear c4
      replace H := Option.bind_eq_some_iff.mp H
      obtain ⟨t132, A50, H⟩ := H
      replace H : (if x3_1.length < 5864062014805 then (rib_lists.l0 k1 (x3_1 ++ [t132]) l0 (l0.length : Int) (wrap64 (x8_1 + 1))) else (none)) = some r := H
      have A5 := Aside0.mk A50
      clear A50
      by_cases c6 : x3_1.length < 5864062014805
      ·rw [if_pos c6] at H
       have LMc6 := Aside0.mk c6
       clear c6
       obtain ⟨y135, hy135⟩ : ∃ y_ : List (List Int), y_ = (x3_1 ++ [t132]) := ⟨_, rfl⟩
       replace H : (rib_lists.l0 k1 y135 l0 (l0.length : Int) (wrap64 (x8_1 + 1))) = some r := by first | (rw [hy135]; with_reducible exact H) | (have H2_ := (Option.bind_some _ _).symm.trans H; rw [hy135]; with_reducible exact H2_) | (have H2_ := (Option.bind_some _ _).symm.trans H; with_reducible exact H2_) | with_reducible exact H | (rw [hy135]; exact H) | exact H
       have Ny135 := Aside0.mk hy135
       clear hy135
       have H' := Aside0.mk H
       clear H
       have p131 : 0 ≤ (x8_1 : Int) := ofd
       have q131 : x8_1 < (l0.length : Int) := ofd
       obtain ⟨ad131, e131, hx131_0⟩ := Kd.at_int HR0.out x8_1 p131 q131
       cases e131
       replace hx131_0 := (HB.out.cell (World.block_lt_of_cell? w _ hx131_0)).trans hx131_0
       replace p131 := eq_true p131
       replace q131 := eq_true q131
       go_wp2_with (first | ((with_reducible refine gate_callee (f := 74) rfl ?_); refine gL 14 Try.func74 #[.int .u32 (rd l0 x8_1)] ?_; (with_reducible refine (rib_set_list.calls k1 (rd l0 x8_1) t132 _ A5.out).mono ?_); rintro e w7 ⟨v133, rfl, ho0, hb⟩; refine ⟨_, rfl, ?_⟩; have n0_ := Aside0.mk (Kd.S_elder' (by (with_reducible repeat (first | apply Kd.S_alloc | apply Kd.S_drewN | apply Kd.S_drew)); exact HO_3.out) (Kd.R_base ho0) hb); have n1_ := Aside0.mk (Kd.R_lower ho0 (below_size (bl HB))); have n2_ := Aside0.mk (below_step (bl HB) hb); clear HO_3; clear HB; have HO_3 := n0_; have HO134 := n1_; have HB := n2_; clear n0_ n1_ n2_; (try clear hb); (try clear hb2); (try clear hk); (try clear hi); (try clear ho0); obtain ⟨Ao9, co9, eo9⟩ := Kd.R_slice HO134.out; subst eo9) | ((with_reducible refine gate_builtin (b := .append) (xs := #[.tmp 12, .tmp 15]) rfl ?_); at_builtin; refine Kd.S_append (Kd.slice 3 (Kd.int .i64)) (w0 := w) w.heap.size rfl (.tmp 12) (.tmp 15) 26 34 (.slice none 0 0) 24 rfl Try.underlying26 info34 rfl (by decide) (by omega) u3 x3_1 t132 [.slice Ao9 t132.length co9] (fun _ => True) (fun k_ => some k_ = (.slice Ao9 t132.length co9 : Value).ownBlock) rfl rfl ?aP (fun k_ hk_ => ((Kd.R_mono (ok' := fun k_ => ((fun _ => True)) k_ ∧ some k_ ≠ (u3 : Value).ownBlock) (Kd.R_apart' (HO134.out) (Kd.S_typed HO_3.out) (by decide)) (fun k_ hk => ⟨trivial, hk.2⟩))).1 k_ hk_.symm) ?aF ?aO ?aB ?aS ?aL ?_; (case aP => exact Kd.M_row (Kd.R_mono (Kd.R_tight rfl (Kd.R_mono (ok' := fun k_ => ((fun _ => True)) k_ ∧ some k_ ≠ (u3 : Value).ownBlock) (Kd.R_apart' (HO134.out) (Kd.S_typed HO_3.out) (by decide)) (fun k_ hk => ⟨trivial, hk.2⟩))) (fun _ h_ => h_))); (case aB => exact (bl HB)); (case aF => exact (fun _ _ => trivial)); (case aO => exact (by (with_reducible repeat (first | apply Kd.S_alloc | apply Kd.S_drewN | apply Kd.S_drew)); exact Kd.S_mono HO_3.out (fun k_ hk => ⟨trivial, fun e_ => hk.2 e_⟩))); (case aS => exact (below_size (bl HB))); (case aL => have := LMc6.out; omega); intro v136 w8 ho hb hg hat; rw [← Ny135.out] at ho; have n0_ := Aside0.mk (hb); have n1_ := Aside0.mk (ho); clear HB; clear HO_3; clear HO134; have HB := n0_; have HO137 := n1_; clear n0_ n1_; clear ho hb hg hat))
       go_roundg k1
       case measure => have := HK1.out; omega
       case rel => exact ⟨(y135), (wrap64 (x8_1 + 1)), (by first | rfl | (simp; done) | (simp [*]; done)), H', ⟨by have := HK1.out; omega⟩, ⟨by (with_reducible repeat (first | apply Kd.S_alloc | apply Kd.S_drewN | apply Kd.S_drew)); exact HO137.out⟩, ⟨bl HB⟩⟩
      ·rw [if_neg c6] at H
       exact absurd H (by simp)
     ·rw [if_neg c4] at H
      exact absurd H (by simp)
    ·rw [if_neg c3] at H
     exact absurd H (by simp)
   ·rw [if_neg c2] at H
    have c2b0 : decide (x8_1 < (l0.length : Int)) = false := decide_eq_false c2
    clear c2
    obtain rfl := Option.some.inj H
    go_wp2
    go_ret
    exact ⟨_, by first | rfl | (simp [errW_none, errW_some] <;> rfl) | (simp [*, errW_none, errW_some] <;> rfl), by (with_reducible repeat (first | apply Kd.S_alloc | apply Kd.S_drewN | apply Kd.S_drew)); exact HO_3.out, by repeat (first | (with_reducible first | exact HB.out | apply below_alloc | apply pw_below_drewN | apply below_drew1) | exact HB.out)⟩
def rib_graph_all.f (l0 : List Int) : Option (Int) := (rib_one.f (l0.length : Int)).bind fun t138 => (some ((t138 - 1) % 4294967296))
set_option maxHeartbeats 8000000 in
set_option maxRecDepth 100000 in
theorem rib_graph_all.calls (A0 : Option Addr) (c0 : Nat) (l0 : List Int) (r : Int) (w : World) (hr0 : Kd.C (Kd.int .u32) w A0 l0.length l0) (hc0 : l0.length ≤ c0) (h : rib_graph_all.f l0 = some r) :
  Calls Try.prog 65 #[.slice A0 l0.length c0] w fun e w' => e = .returned (.int .u32 r) ∧ Drawn0 w w' := by
 have HR0 := Aside0.mk hr0
 have HC0 := Aside0.mk hc0
 clear hr0 hc0
 have H : ((rib_one.f (l0.length : Int)).bind fun t138 => (some ((t138 - 1) % 4294967296))) = some r := h
 clear h
 replace H := Option.bind_eq_some_iff.mp H
 obtain ⟨t138, A20, H⟩ := H
 replace H : (some ((t138 - 1) % 4294967296)) = some r := H
 have A2 := Aside0.mk A20
 clear A20
 obtain rfl := Option.some.inj H
 go_enter Try.func65, Try.ntmps65
 go_wp2_with (first | ((with_reducible refine gate_callee (f := 67) rfl ?_); refine gL 5 Try.func67 #[.int .i64 (l0.length : Int)] ?_; (with_reducible refine (rib_one.calls (l0.length : Int) t138 _ A2.out).mono ?_); rintro e w' ⟨rfl, ⟨nd, rfl⟩⟩; refine ⟨_, rfl, ?_⟩))
 go_ret
 exact ⟨by first | rfl | (simp; done) | (simp [*]; done), by repeat (first | exact Drawn0.refl _ | apply Drawn0.step)⟩
end Go.Proofs.Ytdpolfflemocaaa.Own
namespace Go.Proofs.Ytdpolfflemocaaa.Own
open Go.RowKit Go.Proofs.Ytdpolfflemocaaa.Own Go.Proofs.YtdpolfflemocaaaW.PrintWords Go.Proofs.YtdpolfflemocaaaW.PrintLast Go.Proofs.YtdpolfflemocaaaW.PrintMore
attribute [local go_sem] max2_int min2_int max_two min_two max_three min_three max_four min_four
set_option linter.unusedVariables false
set_option linter.unusedSimpArgs false
def cmp_isNaN_int.f (a0 : Int) : Option (Bool) := some (a0 != a0)
set_option maxHeartbeats 8000000 in
set_option maxRecDepth 100000 in
theorem cmp_isNaN_int.calls (a0 : Int) (r : Bool) (w : World) (h : cmp_isNaN_int.f a0 = some r) :
  Calls Try.prog 100 #[.int .i64 a0] w fun e w' => e = .returned (.bool r) ∧ Drawn0 w w' := by
 have H : (some (a0 != a0)) = some r := h
 clear h
 obtain rfl := Option.some.inj H
 go_enter Try.func100, Try.ntmps100
 go_wp2
 go_ret
 exact ⟨by first | rfl | (simp; done) | (simp [*]; done), by repeat (first | exact Drawn0.refl _ | apply Drawn0.step)⟩
def cmp_Compare_int.f (a0 : Int) (a1 : Int) : Option (Int) := (cmp_isNaN_int.f a0).bind fun t105 => ((cmp_isNaN_int.f a1).bind fun t106 => (if t105 = true then (if t106 = true then (some 0) else (some (-1))) else (if t106 = true then (some 1) else (if a0 < a1 then (some (-1)) else (if a0 > a1 then (some 1) else (some 0))))))
set_option maxHeartbeats 8000000 in
set_option maxRecDepth 100000 in
theorem cmp_Compare_int.calls (a0 : Int) (a1 : Int) (r : Int) (w : World) (h : cmp_Compare_int.f a0 a1 = some r) :
  Calls Try.prog 87 #[.int .i64 a0, .int .i64 a1] w fun e w' => e = .returned (.int .i64 r) ∧ Drawn0 w w' := by
 have H : ((cmp_isNaN_int.f a0).bind fun t105 => ((cmp_isNaN_int.f a1).bind fun t106 => (if t105 = true then (if t106 = true then (some 0) else (some (-1))) else (if t106 = true then (some 1) else (if a0 < a1 then (some (-1)) else (if a0 > a1 then (some 1) else (some 0))))))) = some r := h
 clear h
 replace H := Option.bind_eq_some_iff.mp H
 obtain ⟨t105, A30, H⟩ := H
 replace H : ((cmp_isNaN_int.f a1).bind fun t106 => (if t105 = true then (if t106 = true then (some 0) else (some (-1))) else (if t106 = true then (some 1) else (if a0 < a1 then (some (-1)) else (if a0 > a1 then (some 1) else (some 0)))))) = some r := H
 have A3 := Aside0.mk A30
 clear A30
 replace H := Option.bind_eq_some_iff.mp H
 obtain ⟨t106, A40, H⟩ := H
 replace H : (if t105 = true then (if t106 = true then (some 0) else (some (-1))) else (if t106 = true then (some 1) else (if a0 < a1 then (some (-1)) else (if a0 > a1 then (some 1) else (some 0))))) = some r := H
 have A4 := Aside0.mk A40
 clear A40
 by_cases c5 : t105 = true
 ·subst c5
  have H1 : (if t106 = true then (some 0) else (some (-1))) = some r := by rw [if_pos rfl] at H; exact H
  clear H
  have H := H1
  clear H1
  by_cases c6 : t106 = true
  ·subst c6
   have H1 : (some 0) = some r := by rw [if_pos rfl] at H; exact H
   clear H
   have H := H1
   clear H1
   obtain rfl := Option.some.inj H
   go_enter Try.func87, Try.ntmps87
   go_wp2_with (first | ((with_reducible refine gate_callee (f := 100) rfl ?_); refine goesL_ (some 8) rfl rfl Try.func100 (by kernel_rfl) rfl #[.int .i64 a0] rfl (by (try simp only [List.map_toArray, List.map_cons, List.map_nil]); first | done | rfl | (simp only [List.length_drop, List.length_take]; rfl)) ?_; (with_reducible refine (cmp_isNaN_int.calls a0 true _ A3.out).mono ?_); rintro e w' ⟨rfl, ⟨nd, rfl⟩⟩; refine ⟨_, rfl, ?_⟩) | ((with_reducible refine gate_callee (f := 100) rfl ?_); refine goesL_ (some 10) rfl rfl Try.func100 (by kernel_rfl) rfl #[.int .i64 a1] rfl (by (try simp only [List.map_toArray, List.map_cons, List.map_nil]); first | done | rfl | (simp only [List.length_drop, List.length_take]; rfl)) ?_; (with_reducible refine (cmp_isNaN_int.calls a1 true _ A4.out).mono ?_); rintro e w' ⟨rfl, ⟨nd, rfl⟩⟩; refine ⟨_, rfl, ?_⟩))
   go_ret
   exact ⟨by first | rfl | (simp; done) | (simp [*]; done), by repeat (first | exact Drawn0.refl _ | apply Drawn0.step)⟩
  ·replace c6 := Bool.eq_false_iff.mpr c6
   subst c6
   have H1 : (some (-1)) = some r := by rw [if_neg (show ¬ (false = true) by decide)] at H; exact H
   clear H
   have H := H1
   clear H1
   obtain rfl := Option.some.inj H
   go_enter Try.func87, Try.ntmps87
   go_wp2_with (first | ((with_reducible refine gate_callee (f := 100) rfl ?_); refine goesL_ (some 8) rfl rfl Try.func100 (by kernel_rfl) rfl #[.int .i64 a0] rfl (by (try simp only [List.map_toArray, List.map_cons, List.map_nil]); first | done | rfl | (simp only [List.length_drop, List.length_take]; rfl)) ?_; (with_reducible refine (cmp_isNaN_int.calls a0 true _ A3.out).mono ?_); rintro e w' ⟨rfl, ⟨nd, rfl⟩⟩; refine ⟨_, rfl, ?_⟩) | ((with_reducible refine gate_callee (f := 100) rfl ?_); refine goesL_ (some 10) rfl rfl Try.func100 (by kernel_rfl) rfl #[.int .i64 a1] rfl (by (try simp only [List.map_toArray, List.map_cons, List.map_nil]); first | done | rfl | (simp only [List.length_drop, List.length_take]; rfl)) ?_; (with_reducible refine (cmp_isNaN_int.calls a1 false _ A4.out).mono ?_); rintro e w' ⟨rfl, ⟨nd, rfl⟩⟩; refine ⟨_, rfl, ?_⟩))
   go_ret
   exact ⟨by first | rfl | (simp; done) | (simp [*]; done), by repeat (first | exact Drawn0.refl _ | apply Drawn0.step)⟩
 ·replace c5 := Bool.eq_false_iff.mpr c5
  subst c5
  have H1 : (if t106 = true then (some 1) else (if a0 < a1 then (some (-1)) else (if a0 > a1 then (some 1) else (some 0)))) = some r := by rw [if_neg (show ¬ (false = true) by decide)] at H; exact H
  clear H
  have H := H1
  clear H1
  by_cases c7 : t106 = true
  ·subst c7
   have H1 : (some 1) = some r := by rw [if_pos rfl] at H; exact H
   clear H
   have H := H1
   clear H1
   obtain rfl := Option.some.inj H
   go_enter Try.func87, Try.ntmps87
   go_wp2_with (first | ((with_reducible refine gate_callee (f := 100) rfl ?_); refine goesL_ (some 8) rfl rfl Try.func100 (by kernel_rfl) rfl #[.int .i64 a0] rfl (by (try simp only [List.map_toArray, List.map_cons, List.map_nil]); first | done | rfl | (simp only [List.length_drop, List.length_take]; rfl)) ?_; (with_reducible refine (cmp_isNaN_int.calls a0 false _ A3.out).mono ?_); rintro e w' ⟨rfl, ⟨nd, rfl⟩⟩; refine ⟨_, rfl, ?_⟩) | ((with_reducible refine gate_callee (f := 100) rfl ?_); refine goesL_ (some 10) rfl rfl Try.func100 (by kernel_rfl) rfl #[.int .i64 a1] rfl (by (try simp only [List.map_toArray, List.map_cons, List.map_nil]); first | done | rfl | (simp only [List.length_drop, List.length_take]; rfl)) ?_; (with_reducible refine (cmp_isNaN_int.calls a1 true _ A4.out).mono ?_); rintro e w' ⟨rfl, ⟨nd, rfl⟩⟩; refine ⟨_, rfl, ?_⟩))
   go_ret
   exact ⟨by first | rfl | (simp; done) | (simp [*]; done), by repeat (first | exact Drawn0.refl _ | apply Drawn0.step)⟩
  ·replace c7 := Bool.eq_false_iff.mpr c7
   subst c7
   have H1 : (if a0 < a1 then (some (-1)) else (if a0 > a1 then (some 1) else (some 0))) = some r := by rw [if_neg (show ¬ (false = true) by decide)] at H; exact H
   clear H
   have H := H1
   clear H1
   by_cases c8 : a0 < a1
   ·rw [if_pos c8] at H
    have c8b0 : decide (a0 < a1) = true := decide_eq_true c8
    clear c8
    obtain rfl := Option.some.inj H
    go_enter Try.func87, Try.ntmps87
    go_wp2_with (first | ((with_reducible refine gate_callee (f := 100) rfl ?_); refine goesL_ (some 8) rfl rfl Try.func100 (by kernel_rfl) rfl #[.int .i64 a0] rfl (by (try simp only [List.map_toArray, List.map_cons, List.map_nil]); first | done | rfl | (simp only [List.length_drop, List.length_take]; rfl)) ?_; (with_reducible refine (cmp_isNaN_int.calls a0 false _ A3.out).mono ?_); rintro e w' ⟨rfl, ⟨nd, rfl⟩⟩; refine ⟨_, rfl, ?_⟩) | ((with_reducible refine gate_callee (f := 100) rfl ?_); refine goesL_ (some 10) rfl rfl Try.func100 (by kernel_rfl) rfl #[.int .i64 a1] rfl (by (try simp only [List.map_toArray, List.map_cons, List.map_nil]); first | done | rfl | (simp only [List.length_drop, List.length_take]; rfl)) ?_; (with_reducible refine (cmp_isNaN_int.calls a1 false _ A4.out).mono ?_); rintro e w' ⟨rfl, ⟨nd, rfl⟩⟩; refine ⟨_, rfl, ?_⟩))
    go_ret
    exact ⟨by first | rfl | (simp; done) | (simp [*]; done), by repeat (first | exact Drawn0.refl _ | apply Drawn0.step)⟩
   ·rw [if_neg c8] at H
    have c8b0 : decide (a0 < a1) = false := decide_eq_false c8
    clear c8
    by_cases c9 : a0 > a1
    ·rw [if_pos c9] at H
     have c9b0 : decide (a1 < a0) = true := decide_eq_true c9
     clear c9
     obtain rfl := Option.some.inj H
     go_enter Try.func87, Try.ntmps87
     go_wp2_with (first | ((with_reducible refine gate_callee (f := 100) rfl ?_); refine goesL_ (some 8) rfl rfl Try.func100 (by kernel_rfl) rfl #[.int .i64 a0] rfl (by (try simp only [List.map_toArray, List.map_cons, List.map_nil]); first | done | rfl | (simp only [List.length_drop, List.length_take]; rfl)) ?_; (with_reducible refine (cmp_isNaN_int.calls a0 false _ A3.out).mono ?_); rintro e w' ⟨rfl, ⟨nd, rfl⟩⟩; refine ⟨_, rfl, ?_⟩) | ((with_reducible refine gate_callee (f := 100) rfl ?_); refine goesL_ (some 10) rfl rfl Try.func100 (by kernel_rfl) rfl #[.int .i64 a1] rfl (by (try simp only [List.map_toArray, List.map_cons, List.map_nil]); first | done | rfl | (simp only [List.length_drop, List.length_take]; rfl)) ?_; (with_reducible refine (cmp_isNaN_int.calls a1 false _ A4.out).mono ?_); rintro e w' ⟨rfl, ⟨nd, rfl⟩⟩; refine ⟨_, rfl, ?_⟩))
     go_ret
     exact ⟨by first | rfl | (simp; done) | (simp [*]; done), by repeat (first | exact Drawn0.refl _ | apply Drawn0.step)⟩
    ·rw [if_neg c9] at H
     have c9b0 : decide (a1 < a0) = false := decide_eq_false c9
     clear c9
     obtain rfl := Option.some.inj H
     go_enter Try.func87, Try.ntmps87
     go_wp2_with (first | ((with_reducible refine gate_callee (f := 100) rfl ?_); refine goesL_ (some 8) rfl rfl Try.func100 (by kernel_rfl) rfl #[.int .i64 a0] rfl (by (try simp only [List.map_toArray, List.map_cons, List.map_nil]); first | done | rfl | (simp only [List.length_drop, List.length_take]; rfl)) ?_; (with_reducible refine (cmp_isNaN_int.calls a0 false _ A3.out).mono ?_); rintro e w' ⟨rfl, ⟨nd, rfl⟩⟩; refine ⟨_, rfl, ?_⟩) | ((with_reducible refine gate_callee (f := 100) rfl ?_); refine goesL_ (some 10) rfl rfl Try.func100 (by kernel_rfl) rfl #[.int .i64 a1] rfl (by (try simp only [List.map_toArray, List.map_cons, List.map_nil]); first | done | rfl | (simp only [List.length_drop, List.length_take]; rfl)) ?_; (with_reducible refine (cmp_isNaN_int.calls a1 false _ A4.out).mono ?_); rintro e w' ⟨rfl, ⟨nd, rfl⟩⟩; refine ⟨_, rfl, ?_⟩))
     go_ret
     exact ⟨by first | rfl | (simp; done) | (simp [*]; done), by repeat (first | exact Drawn0.refl _ | apply Drawn0.step)⟩
def slices_Compare_int_int.l0 : Nat → List Int → List Int → List Int → Int → Int → Option (Int)
  | 0, _, _, _, _, _ => none
  | k + 1, x0, x1, x9, x10, x11 => if x11 < x10 then (if 0 ≤ x11 then (if x11 < (x9.length : Int) then (if x11 ≥ (x1.length : Int) then (some 1) else (if x11 < (x1.length : Int) then ((cmp_Compare_int.f (rd x9 x11) (rd x1 x11)).bind fun t109 => (if t109 = 0 then (slices_Compare_int_int.l0 k x0 x1 x9 x10 (wrap64 (x11 + 1))) else (some t109))) else (none))) else (none)) else (none)) else (if (x0.length : Int) < (x1.length : Int) then (some (-1)) else (some 0))
def slices_Compare_int_int.f (k : Nat) (l0 : List Int) (l1 : List Int) : Option (Int) := slices_Compare_int_int.l0 k l0 l1 l0 (l0.length : Int) 0
set_option maxHeartbeats 8000000 in
set_option maxRecDepth 100000 in
theorem slices_Compare_int_int.calls (k : Nat) (A0 : Option Addr) (c0 : Nat) (l0 : List Int) (A1 : Option Addr) (c1 : Nat) (l1 : List Int) (r : Int) (w : World) (hr0 : Kd.C (Kd.int .i64) w A0 l0.length l0) (hc0 : l0.length ≤ c0) (hr1 : Kd.C (Kd.int .i64) w A1 l1.length l1) (hc1 : l1.length ≤ c1) (h : slices_Compare_int_int.f k l0 l1 = some r) :
  Calls Try.prog 91 #[.slice A0 l0.length c0, .slice A1 l1.length c1] w fun e w' => e = .returned (.int .i64 r) ∧ Drawn0 w w' := by
 have HR0 := Aside0.mk hr0
 have HC0 := Aside0.mk hc0
 clear hr0 hc0
 have HR1 := Aside0.mk hr1
 have HC1 := Aside0.mk hc1
 clear hr1 hc1
 have H : (slices_Compare_int_int.l0 k l0 l1 l0 (l0.length : Int) 0) = some r := h
 clear h
 have H' := Aside0.mk H
 clear H
 go_enter Try.func91, Try.ntmps91
 go_wp2
 go_loopg [11] k (fun kq v11 w' => ∃ (x11_1 : Int), v11 = .int .i64 x11_1 ∧ Aside0 (slices_Compare_int_int.l0 kq l0 l1 l0 (l0.length : Int) x11_1 = some r) ∧ Aside0 (kq ≤ k) ∧ Drawn0 w w')
 case atStart => exact ⟨(0), (by first | rfl | (simp; done) | (simp [*]; done)), H', ⟨Nat.le_refl _⟩, by repeat (first | exact Drawn0.refl _ | apply Drawn0.step)⟩
 case round =>
  clear H'
  try clear c1
  try clear p2
  obtain ⟨x11_1, rfl, HA, HK1, ⟨m1, rfl⟩⟩ := hrel
  cases gk with
  | zero => exact absurd HA.out (by simp [slices_Compare_int_int.l0])
  | succ k1 =>
   have H := HA.out
   clear HA
   simp only [slices_Compare_int_int.l0] at H
   by_cases c3 : x11_1 < (l0.length : Int)
   ·rw [if_pos c3] at H
    have c3b0 : decide (x11_1 < (l0.length : Int)) = true := decide_eq_true c3
    clear c3
    by_cases c4 : 0 ≤ x11_1
    ·rw [if_pos c4] at H
     have c4b0 : decide (0 ≤ x11_1) = true := decide_eq_true c4
     clear c4
     by_cases c5 : x11_1 < (l0.length : Int)
     ·rw [if_pos c5] at H
      have c5b0 : decide (x11_1 < (l0.length : Int)) = true := decide_eq_true c5
      clear c5
      by_cases c6 : x11_1 ≥ (l1.length : Int)
      ·rw [if_pos c6] at H
       have c6b0 : decide ((l1.length : Int) ≤ x11_1) = true := decide_eq_true c6
       clear c6
       obtain rfl := Option.some.inj H
       have p107 : 0 ≤ (x11_1 : Int) := of_decide_eq_true (by first | (with_reducible assumption) | assumption)
       have q107 : x11_1 < (l0.length : Int) := of_decide_eq_true (by first | (with_reducible assumption) | assumption)
       obtain ⟨ad107, e107, hx107_0⟩ := Kd.at_int HR0.out x11_1 p107 q107
       cases e107
       replace p107 := eq_true p107
       replace q107 := eq_true q107
       go_wp2
       go_ret
       exact ⟨by first | rfl | (simp; done) | (simp [*]; done), by repeat (first | exact Drawn0.refl _ | apply Drawn0.step)⟩
      ·rw [if_neg c6] at H
       have c6b0 : decide ((l1.length : Int) ≤ x11_1) = false := decide_eq_false c6
       clear c6
       by_cases c7 : x11_1 < (l1.length : Int)
       ·rw [if_pos c7] at H
        have c7b0 : decide (x11_1 < (l1.length : Int)) = true := decide_eq_true c7
        clear c7
        replace H := Option.bind_eq_some_iff.mp H
        obtain ⟨t109, A80, H⟩ := H
        replace H : (if t109 = 0 then (slices_Compare_int_int.l0 k1 l0 l1 l0 (l0.length : Int) (wrap64 (x11_1 + 1))) else (some t109)) = some r := H
        have A8 := Aside0.mk A80
        clear A80
        by_cases c9 : t109 = 0
        ·rw [if_pos c9] at H
         have c9b0 : (t109 == 0) = true := beq_iff_eq.mpr c9
         have c9b1 : (t109 != 0) = false := bne_eq_false_iff_eq.mpr c9
         clear c9
         have H' := Aside0.mk H
         clear H
         have p107 : 0 ≤ (x11_1 : Int) := of_decide_eq_true (by first | (with_reducible assumption) | assumption)
         have q107 : x11_1 < (l0.length : Int) := of_decide_eq_true (by first | (with_reducible assumption) | assumption)
         obtain ⟨ad107, e107, hx107_0⟩ := Kd.at_int HR0.out x11_1 p107 q107
         cases e107
         replace p107 := eq_true p107
         replace q107 := eq_true q107
         have p108 : 0 ≤ (x11_1 : Int) := of_decide_eq_true (by first | (with_reducible assumption) | assumption)
         have q108 : x11_1 < (l1.length : Int) := of_decide_eq_true (by first | (with_reducible assumption) | assumption)
         obtain ⟨ad108, e108, hx108_0⟩ := Kd.at_int HR1.out x11_1 p108 q108
         cases e108
         replace p108 := eq_true p108
         replace q108 := eq_true q108
         go_wp2_with (first | ((with_reducible refine gate_callee (f := 87) rfl ?_); refine goesL_ (some 26) rfl rfl Try.func87 (by kernel_rfl) rfl #[.int .i64 (rd l0 x11_1), .int .i64 (rd l1 x11_1)] rfl (by (try simp only [List.map_toArray, List.map_cons, List.map_nil]); first | done | rfl | (simp only [List.length_drop, List.length_take]; rfl)) ?_; (with_reducible refine (cmp_Compare_int.calls (rd l0 x11_1) (rd l1 x11_1) t109 _ A8.out).mono ?_); rintro e w' ⟨rfl, ⟨nd, rfl⟩⟩; refine ⟨_, rfl, ?_⟩))
         go_roundg k1
         case measure => have := HK1.out; omega
         case rel => exact ⟨(wrap64 (x11_1 + 1)), (by first | rfl | (simp; done) | (simp [*]; done)), H', ⟨by have := HK1.out; omega⟩, by repeat (first | exact Drawn0.refl _ | apply Drawn0.step)⟩
        ·rw [if_neg c9] at H
         have c9b0 : (t109 == 0) = false := beq_eq_false_iff_ne.mpr c9
         have c9b1 : (t109 != 0) = true := bne_iff_ne.mpr c9
         obtain rfl := Option.some.inj H
         have p107 : 0 ≤ (x11_1 : Int) := of_decide_eq_true (by first | (with_reducible assumption) | assumption)
         have q107 : x11_1 < (l0.length : Int) := of_decide_eq_true (by first | (with_reducible assumption) | assumption)
         obtain ⟨ad107, e107, hx107_0⟩ := Kd.at_int HR0.out x11_1 p107 q107
         cases e107
         replace p107 := eq_true p107
         replace q107 := eq_true q107
         have p108 : 0 ≤ (x11_1 : Int) := of_decide_eq_true (by first | (with_reducible assumption) | assumption)
         have q108 : x11_1 < (l1.length : Int) := of_decide_eq_true (by first | (with_reducible assumption) | assumption)
         obtain ⟨ad108, e108, hx108_0⟩ := Kd.at_int HR1.out x11_1 p108 q108
         cases e108
         replace p108 := eq_true p108
         replace q108 := eq_true q108
         go_wp2_with (first | ((with_reducible refine gate_callee (f := 87) rfl ?_); refine goesL_ (some 26) rfl rfl Try.func87 (by kernel_rfl) rfl #[.int .i64 (rd l0 x11_1), .int .i64 (rd l1 x11_1)] rfl (by (try simp only [List.map_toArray, List.map_cons, List.map_nil]); first | done | rfl | (simp only [List.length_drop, List.length_take]; rfl)) ?_; (with_reducible refine (cmp_Compare_int.calls (rd l0 x11_1) (rd l1 x11_1) t109 _ A8.out).mono ?_); rintro e w' ⟨rfl, ⟨nd, rfl⟩⟩; refine ⟨_, rfl, ?_⟩))
         go_ret
         exact ⟨by first | rfl | (simp; done) | (simp [*]; done), by repeat (first | exact Drawn0.refl _ | apply Drawn0.step)⟩
       ·rw [if_neg c7] at H
        exact absurd H (by simp)
     ·rw [if_neg c5] at H
      exact absurd H (by simp)
    ·rw [if_neg c4] at H
     exact absurd H (by simp)
   ·rw [if_neg c3] at H
    have c3b0 : decide (x11_1 < (l0.length : Int)) = false := decide_eq_false c3
    clear c3
    by_cases c10 : (l0.length : Int) < (l1.length : Int)
    ·rw [if_pos c10] at H
     have c10b0 : decide ((l0.length : Int) < (l1.length : Int)) = true := decide_eq_true c10
     have c10b1 : decide (l0.length < l1.length) = true := decide_eq_true (Int.ofNat_lt.mp c10)
     clear c10
     obtain rfl := Option.some.inj H
     go_wp2
     go_ret
     exact ⟨by first | rfl | (simp; done) | (simp [*]; done), by repeat (first | exact Drawn0.refl _ | apply Drawn0.step)⟩
    ·rw [if_neg c10] at H
     have c10b0 : decide ((l0.length : Int) < (l1.length : Int)) = false := decide_eq_false c10
     have c10b1 : decide (l0.length < l1.length) = false := decide_eq_false (fun h => c10 (Int.ofNat_lt.mpr h))
     clear c10
     obtain rfl := Option.some.inj H
     go_wp2
     go_ret
     exact ⟨by first | rfl | (simp; done) | (simp [*]; done), by repeat (first | exact Drawn0.refl _ | apply Drawn0.step)⟩
end Go.Proofs.Ytdpolfflemocaaa.Own
namespace Go.Proofs.Ytdpolfflemocaaa.Own
open Go.RowKit Go.Proofs.Ytdpolfflemocaaa.Own Go.Proofs.YtdpolfflemocaaaW.PrintWords Go.Proofs.YtdpolfflemocaaaW.PrintLast Go.Proofs.YtdpolfflemocaaaW.PrintMore
attribute [local go_sem] max2_int min2_int max_two min_two max_three min_three max_four min_four
set_option linter.unusedVariables false
set_option linter.unusedSimpArgs false
theorem drawn_drewN (w : World) (n : Nat) : (w.drewN n).drawn = w.drawn + n := rfl
theorem drawn_drew (w : World) : w.drew.drawn = w.drawn + 1 := rfl
theorem drawn_alloc (w : World) (o : Obj) : (w.alloc o).drawn = w.drawn := rfl
set_option maxHeartbeats 8000000 in
set_option maxRecDepth 100000 in
theorem rib_set_list.laid (k : Nat) (a0 : Int) (r : List Int) (w : World) (h : rib_set_list.f k a0 = some r) :
  Calls Try.prog 74 #[.int .u32 a0] w fun e w' => ∃ v0_ : Value, e = .returned (v0_) ∧ Kd.R (Kd.int .i64) 3 w' w.heap.size (fun _ => True) v0_ r ∧ Below w.heap.size w w' ∧ w.drawn ≤ w'.drawn := by
 have HD := Aside0.mk (Nat.le_refl w.drawn)
 have HB := Aside0.mk (Below.refl w.heap.size w)
 have H : (rib_set_list.l0 k a0 ([] : List Int) 0) = some r := h
 clear h
 have H' := Aside0.mk H
 clear H
 go_enter Try.func74, Try.ntmps74
 go_wp2
 go_loopg [3, 5] k (fun kq v3 v5 w' => ∃ (x3_1 : List Int) (x5_1 : Int), v5 = .int .i64 x5_1 ∧ Aside0 (rib_set_list.l0 kq a0 x3_1 x5_1 = some r) ∧ Aside0 (kq ≤ k) ∧ Aside0 (Kd.R (Kd.int .i64) 3 w' w.heap.size (fun _ => True) v3 x3_1) ∧ Aside0 (Below w.heap.size w w') ∧ Aside0 (w.drawn ≤ w'.drawn))
 case atStart => exact ⟨(([] : List Int)), (0), (by first | rfl | (simp; done) | (simp [*]; done)), H', ⟨Nat.le_refl _⟩, ⟨by first | exact Kd.R_nil _ _ _ _ _ | exact Kd.N_nil _ _ _ _ _ | exact Kd.V_nil _ _ _ _ _ | exact Kd.Q_nil _ _ _ _ _ | exact Kd.S_nil _ _ _ _ _⟩, ⟨bl HB⟩, ⟨by (have h_ := Aside0.out HD; first | exact h_ | (simp only [drawn_drewN, drawn_drew, drawn_alloc]; omega))⟩⟩
 case round =>
  clear H'
  obtain ⟨x3_1, x5_1, rfl, HA, HK1, HO_3, HB, HD⟩ := hrel
  cases gk with
  | zero => exact absurd HA.out (by simp [rib_set_list.l0])
  | succ k1 =>
   have H := HA.out
   clear HA
   simp only [rib_set_list.l0] at H
   by_cases c2 : x5_1 < 32
   ·rw [if_pos c2] at H
    have c2b0 : decide (x5_1 < 32) = true := decide_eq_true c2
    clear c2
    replace H := Option.bind_eq_some_iff.mp H
    obtain ⟨t127, A30, H⟩ := H
    replace H : (if t127 = true then (if x3_1.length < 17592186044416 then (rib_set_list.l0 k1 a0 (x3_1 ++ [x5_1]) (wrap64 (x5_1 + 1))) else (none)) else (rib_set_list.l0 k1 a0 x3_1 (wrap64 (x5_1 + 1)))) = some r := H
    have A3 := Aside0.mk A30
    clear A30
    by_cases c4 : t127 = true
    ·subst c4
     have H1 : (if x3_1.length < 17592186044416 then (rib_set_list.l0 k1 a0 (x3_1 ++ [x5_1]) (wrap64 (x5_1 + 1))) else (none)) = some r := by rw [if_pos rfl] at H; exact H
     clear H
     have H := H1
     clear H1
     by_cases c5 : x3_1.length < 17592186044416
     ·rw [if_pos c5] at H
      have LMc5 := Aside0.mk c5
      clear c5
      obtain ⟨y128, hy128⟩ : ∃ y_ : List Int, y_ = (x3_1 ++ [x5_1]) := ⟨_, rfl⟩
      replace H : (rib_set_list.l0 k1 a0 y128 (wrap64 (x5_1 + 1))) = some r := by first | (rw [hy128]; with_reducible exact H) | (have H2_ := (Option.bind_some _ _).symm.trans H; rw [hy128]; with_reducible exact H2_) | (have H2_ := (Option.bind_some _ _).symm.trans H; with_reducible exact H2_) | with_reducible exact H | (rw [hy128]; exact H) | exact H
      have Ny128 := Aside0.mk hy128
      clear hy128
      have H' := Aside0.mk H
      clear H
      go_wp2_with (first | ((with_reducible refine gate_callee (f := 60) rfl ?_); refine gL 10 Try.func60 #[.int .u32 a0, .int .i64 x5_1] ?_; (with_reducible refine (rib_set_has.calls a0 x5_1 true _ A3.out).mono ?_); rintro e w' ⟨rfl, ⟨nd, rfl⟩⟩; refine ⟨_, rfl, ?_⟩) | ((with_reducible refine gate_builtin (b := .append) (xs := #[.tmp 11, .tmp 13]) rfl ?_); at_builtin; refine R_append_d (Kd.int .i64) (w0 := w) w.heap.size rfl (.tmp 11) (.tmp 13) 34 3 (.int .i64 0) 8 rfl Try.underlying34 info3 rfl (by decide) (by omega) u3 x3_1 x5_1 [.int .i64 x5_1] (fun _ => True) (fun _ => False) rfl rfl ?aP (fun _ hk => hk.elim) ?aF ?aO ?aB ?aS ?aL ?_; (case aP => exact rfl); (case aB => exact (bl HB)); (case aF => exact (fun _ _ => trivial)); (case aO => exact (rl HO_3)); (case aS => exact (below_size (bl HB))); (case aL => have := LMc5.out; omega); intro v129 w6 ho hb hd; have nd_ := Aside0.mk (show w.drawn ≤ w6.drawn by (have h_ := HD.out; simp only [drawn_drewN, drawn_drew, drawn_alloc] at hd; omega)); clear HD hd; have HD := nd_; clear nd_; rw [← Ny128.out] at ho; have n0_ := Aside0.mk (hb); have n1_ := Aside0.mk (ho); clear HB; clear HO_3; have HB := n0_; have HO130 := n1_; clear n0_ n1_; clear ho hb))
      go_roundg k1
      case measure => have := HK1.out; omega
      case rel => exact ⟨(y128), (wrap64 (x5_1 + 1)), (by first | rfl | (simp; done) | (simp [*]; done)), H', ⟨by have := HK1.out; omega⟩, ⟨rl HO130⟩, ⟨bl HB⟩, ⟨by (have h_ := Aside0.out HD; first | exact h_ | (simp only [drawn_drewN, drawn_drew, drawn_alloc]; omega))⟩⟩
     ·rw [if_neg c5] at H
      exact absurd H (by simp)
    ·replace c4 := Bool.eq_false_iff.mpr c4
     subst c4
     have H1 : (rib_set_list.l0 k1 a0 x3_1 (wrap64 (x5_1 + 1))) = some r := by rw [if_neg (show ¬ (false = true) by decide)] at H; exact H
     clear H
     have H := H1
     clear H1
     have H' := Aside0.mk H
     clear H
     go_wp2_with (first | ((with_reducible refine gate_callee (f := 60) rfl ?_); refine gL 10 Try.func60 #[.int .u32 a0, .int .i64 x5_1] ?_; (with_reducible refine (rib_set_has.calls a0 x5_1 false _ A3.out).mono ?_); rintro e w' ⟨rfl, ⟨nd, rfl⟩⟩; refine ⟨_, rfl, ?_⟩))
     go_roundg k1
     case measure => have := HK1.out; omega
     case rel => exact ⟨(x3_1), (wrap64 (x5_1 + 1)), (by first | rfl | (simp; done) | (simp [*]; done)), H', ⟨by have := HK1.out; omega⟩, ⟨rl HO_3⟩, ⟨bl HB⟩, ⟨by (have h_ := Aside0.out HD; first | exact h_ | (simp only [drawn_drewN, drawn_drew, drawn_alloc]; omega))⟩⟩
   ·rw [if_neg c2] at H
    have c2b0 : decide (x5_1 < 32) = false := decide_eq_false c2
    clear c2
    obtain rfl := Option.some.inj H
    go_wp2
    go_ret
    exact ⟨_, by first | rfl | (simp [errW_none, errW_some] <;> rfl) | (simp [*, errW_none, errW_some] <;> rfl), by (with_reducible repeat (first | apply Kd.R_alloc | apply Kd.R_drewN | apply Kd.R_drew)); exact HO_3.out, by repeat (first | (with_reducible first | exact HB.out | apply below_alloc | apply pw_below_drewN | apply below_drew1) | exact HB.out), by (have h_ := Aside0.out HD; first | exact h_ | (simp only [drawn_drewN, drawn_drew, drawn_alloc]; omega))⟩
end Go.Proofs.Ytdpolfflemocaaa.Own
namespace Go.Proofs.Ytdpolfflemocaaa.Own
open Go Go.RowKit Go.Proofs.YtdpolfflemocaaaW.PrintWords Go.Proofs.YtdpolfflemocaaaW.PrintLast Go.Proofs.YtdpolfflemocaaaW.PrintMore
def hasB (x i : Int) : Bool := Go.bits .and .u32 (shr .u32 x i) 1 == 1
def nodesFrom (x : Int) : Nat → List Int
  | 0 => []
  | n + 1 => if hasB x ((31 - n : Nat) : Int) then ((31 - n : Nat) : Int) :: nodesFrom x n else nodesFrom x n
def nodes (x : Int) : List Int := nodesFrom x 32
theorem nodesFrom_len (x : Int) : ∀ n, (nodesFrom x n).length ≤ n
 | 0 => by simp [nodesFrom]
 | n + 1 => by
  have h := nodesFrom_len x n
  unfold nodesFrom
  split <;> simp <;> omega
theorem list_l0 (x : Int) : ∀ (n k : Nat) (acc : List Int), n ≤ 32 → n < k → acc.length ≤ 32 - n → rib_set_list.l0 k x acc ((32 - n : Nat) : Int) = some (acc ++ nodesFrom x n) := by
 intro n
 induction n with
 | zero =>
  intro k acc _ hk ha
  obtain ⟨k, rfl⟩ : ∃ j, k = j + 1 := ⟨k - 1, by omega⟩
  simp [rib_set_list.l0, nodesFrom]
 | succ n ih =>
  intro k acc hn hk ha
  obtain ⟨k, rfl⟩ : ∃ j, k = j + 1 := ⟨k - 1, by omega⟩
  have e1 : ((32 - (n + 1) : Nat) : Int) = ((31 - n : Nat) : Int) := by congr 1; omega
  have hw : wrap64 (((31 - n : Nat) : Int) + 1) = ((32 - n : Nat) : Int) := by
   unfold wrap64
   omega
  rw [e1]
  simp only [rib_set_list.l0]
  rw [if_pos (show ((31 - n : Nat) : Int) < 32 by omega), hw]
  rw [show rib_set_has.f x ((31 - n : Nat) : Int) = some (hasB x ((31 - n : Nat) : Int)) by unfold rib_set_has.f hasB; rw [if_pos (by omega)]]
  simp only [Option.bind_some]
  unfold nodesFrom
  by_cases hb : hasB x ((31 - n : Nat) : Int) = true
  ·rw [if_pos hb, if_pos hb, if_pos (by omega)]
   rw [ih k (acc ++ [((31 - n : Nat) : Int)]) (by omega) (by omega) (by simp; omega)]
   simp
  ·rw [if_neg hb, if_neg hb]
   exact ih k acc (by omega) (by omega) (by omega)
theorem list_f (x : Int) (k : Nat) (hk : 32 < k) : rib_set_list.f k x = some (nodes x) := by
 have h := list_l0 x 32 k [] (Nat.le_refl _) hk (by simp)
 unfold rib_set_list.f nodes
 simpa using h
def cmpL : List Int → List Int → Int
 | [], [] => 0
 | [], _ :: _ => -1
 | _ :: _, [] => 1
 | a :: s, b :: t => if a < b then -1 else if a > b then 1 else cmpL s t
theorem cmp_f (a b : Int) : cmp_Compare_int.f a b = some (if a < b then -1 else if a > b then 1 else 0) := by
 unfold cmp_Compare_int.f cmp_isNaN_int.f
 simp only [Option.bind_some, bne_self_eq_false, Bool.false_eq_true, if_false]
 split
 ·rfl
 ·split <;> rfl
theorem compare_l0 (l0 l1 : List Int) (h0 : l0.length < 2 ^ 40) : ∀ (n k i : Nat), i + n = l0.length → n < k → i ≤ l1.length →
  slices_Compare_int_int.l0 k l0 l1 l0 (l0.length : Int) (i : Int) = some (cmpL (l0.drop i) (l1.drop i)) := by
 intro n
 induction n with
 | zero =>
  intro k i hi hk hl
  obtain ⟨k, rfl⟩ : ∃ j, k = j + 1 := ⟨k - 1, by omega⟩
  simp only [slices_Compare_int_int.l0]
  rw [if_neg (by omega), List.drop_eq_nil_of_le (by omega : l0.length ≤ i)]
  by_cases h : l1.length ≤ i
  ·rw [List.drop_eq_nil_of_le h, if_neg (by omega)]; rfl
  ·rw [List.drop_eq_getElem_cons (by omega : i < l1.length), if_pos (by omega)]; rfl
 | succ n ih =>
  intro k i hi hk hl
  obtain ⟨k, rfl⟩ : ∃ j, k = j + 1 := ⟨k - 1, by omega⟩
  have hi0 : i < l0.length := by omega
  simp only [slices_Compare_int_int.l0]
  rw [if_pos (by omega), if_pos (by omega), if_pos (by omega), List.drop_eq_getElem_cons hi0]
  by_cases h : l1.length ≤ i
  ·rw [if_pos (by omega), List.drop_eq_nil_of_le h]; rfl
  ·have hi1 : i < l1.length := by omega
   rw [if_neg (by omega), if_pos (by omega), List.drop_eq_getElem_cons hi1]
   have r0 : rd l0 (i : Int) = l0[i] := by simp [rd, hi0]
   have r1 : rd l1 (i : Int) = l1[i] := by simp [rd, hi1]
   have hw : wrap64 ((i : Int) + 1) = ((i + 1 : Nat) : Int) := by unfold wrap64; omega
   rw [r0, r1, cmp_f, Option.bind_some, hw]
   unfold cmpL
   by_cases ha : l0[i] < l1[i]
   ·simp [ha]
   ·by_cases hb : l0[i] > l1[i]
    ·simp [ha, hb]
    ·rw [if_neg ha, if_neg hb, if_pos rfl, if_neg ha, if_neg hb]
     exact ih k (i + 1) (by omega) (by omega) (by omega)
theorem compare_f (l0 l1 : List Int) (h0 : l0.length < 2 ^ 40) (k : Nat) (hk : l0.length < k) : slices_Compare_int_int.f k l0 l1 = some (cmpL l0 l1) := by
 have h := compare_l0 l0 l1 h0 l0.length k 0 (by omega) hk (by omega)
 unfold slices_Compare_int_int.f
 simpa using h
theorem cmpL_self : ∀ s, cmpL s s = 0
  | [] => rfl
  | a :: s => by simp [cmpL, cmpL_self s]
theorem cmpL_zero : ∀ s t, cmpL s t = 0 → s = t
 | [], [], _ => rfl
 | [], _ :: _, h => by simp [cmpL] at h
 | _ :: _, [], h => by simp [cmpL] at h
 | a :: s, b :: t, h => by
  unfold cmpL at h
  split at h
  ·simp at h
  ·split at h
   ·simp at h
   ·rw [cmpL_zero s t h, show a = b by omega]
theorem cmpL_anti : ∀ s t, cmpL s t = - cmpL t s
 | [], [] => rfl
 | [], _ :: _ => rfl
 | _ :: _, [] => rfl
 | a :: s, b :: t => by
  have ih := cmpL_anti s t
  unfold cmpL
  by_cases h1 : a < b
  ·rw [if_pos h1, if_neg (by omega), if_pos h1]
  ·by_cases h2 : a > b
   ·rw [if_neg h1, if_pos h2, if_pos (by omega)]; rfl
   ·rw [if_neg h1, if_neg h2, if_neg (by omega), if_neg (by omega)]; exact ih
theorem cmpL_trans : ∀ s t u, cmpL s t ≤ 0 → cmpL t u ≤ 0 → cmpL s u ≤ 0 ∧ (cmpL s t < 0 ∨ cmpL t u < 0 → cmpL s u < 0)
 | [], [], _, _, h => by
  refine ⟨h, fun h2 => ?_⟩
  rcases h2 with h2 | h2
  ·simp [cmpL] at h2
  ·exact h2
 | [], _ :: _, [], _, h => by simp [cmpL] at h
 | [], _ :: _, _ :: _, _, _ => by simp [cmpL]
 | _ :: _, [], _, h, _ => by simp [cmpL] at h
 | _ :: _, _ :: _, [], _, h => by simp [cmpL] at h
 | a :: s, b :: t, c :: u, h1, h2 => by
  have ih := cmpL_trans s t u
  unfold cmpL at h1 h2 ⊢
  by_cases x1 : a < b
  ·by_cases x2 : b < c
   ·simp [show a < c by omega]
   ·by_cases x3 : b > c
    ·simp [x2, x3] at h2
    ·simp [show a < c by omega]
  ·by_cases x4 : a > b
   ·simp [x1, x4] at h1
   ·have e : a = b := by omega
    subst e
    by_cases x2 : a < c
    ·simp [x2]
    ·by_cases x3 : a > c
     ·simp [x2, x3] at h2
     ·simp only [x1, x2, x3, if_false] at h1 h2 ⊢
      simp only [Int.lt_irrefl, gt_iff_lt] at *
      exact ih h1 h2
end Go.Proofs.Ytdpolfflemocaaa.Own
namespace Go.Proofs.Ytdpolfflemocaaa.Own
open Go Go.RowKit Go.Proofs.YtdpolfflemocaaaW.PrintWords Go.Proofs.YtdpolfflemocaaaW.PrintLast Go.Proofs.YtdpolfflemocaaaW.PrintMore
theorem hasB_nat (a n : Nat) (ha : a < 4294967296) (hn : n < 32) : hasB (a : Int) (n : Int) = a.testBit n := by
 have e : shr .u32 (a : Int) (n : Int) = ((a / 2 ^ n : Nat) : Int) := by
  unfold shr
  have hb : IntKind.u32.bits = 32 := rfl
  rw [hb, Int.toNat_natCast, Nat.min_eq_left (by omega)]
  simp
 have hlt : a / 2 ^ n < 4294967296 := Nat.lt_of_le_of_lt (Nat.div_le_self _ _) ha
 unfold hasB
 rw [e]
 have h1 : bits .and .u32 ((a / 2 ^ n : Nat) : Int) ((1 : Nat) : Int) = ((a / 2 ^ n &&& 1 : Nat) : Int) := u32_and_nat _ _ hlt (by omega)
 rw [show (1 : Int) = ((1 : Nat) : Int) from rfl, h1, Nat.and_one_is_mod, Nat.testBit_eq_decide_div_mod_eq]
 by_cases h : a / 2 ^ n % 2 = 1
 ·rw [h]; simp
 ·have h0 : a / 2 ^ n % 2 = 0 := by omega
  rw [h0]; simp
theorem mem_nodesFrom (x : Int) (j : Nat) : ∀ n, n ≤ 32 → (((j : Int) ∈ nodesFrom x n) ↔ (32 - n ≤ j ∧ j < 32 ∧ hasB x j = true))
 | 0, _ => by simp [nodesFrom]; omega
 | n + 1, hn => by
  have ih := mem_nodesFrom x j n (by omega)
  unfold nodesFrom
  by_cases hj : j = 31 - n
  ·subst hj
   split
   ·rename_i hb
    simp only [List.mem_cons, true_or, true_iff]
    exact ⟨by omega, by omega, hb⟩
   ·rename_i hb
    rw [ih]
    constructor
    ·rintro ⟨h1, h2, h3⟩; exact absurd h3 hb
    ·rintro ⟨h1, h2, h3⟩; exact absurd h3 hb
  ·have hne : ¬ ((j : Int) = ((31 - n : Nat) : Int)) := by omega
   have key : (32 - n ≤ j ∧ j < 32 ∧ hasB x j = true) ↔ (32 - (n + 1) ≤ j ∧ j < 32 ∧ hasB x j = true) := by
    constructor
    ·rintro ⟨h1, h2, h3⟩; exact ⟨by omega, h2, h3⟩
    ·rintro ⟨h1, h2, h3⟩; exact ⟨by omega, h2, h3⟩
   split
   ·rw [List.mem_cons, ih, ← key]
    constructor
    ·rintro (h | h)
     ·exact absurd h hne
     ·exact h
    ·exact Or.inr
   ·rw [ih, key]
theorem mem_nodes (a j : Nat) (ha : a < 4294967296) : ((j : Int) ∈ nodes (a : Int)) ↔ a.testBit j = true := by
 unfold nodes
 rw [mem_nodesFrom _ _ 32 (Nat.le_refl _)]
 by_cases hj : j < 32
 ·rw [hasB_nat a j ha hj]
  constructor
  ·rintro ⟨_, _, h⟩; exact h
  ·intro h; exact ⟨by omega, hj, h⟩
 ·constructor
  ·rintro ⟨_, h, _⟩; exact absurd h hj
  ·intro h
   rw [Nat.testBit_lt_two_pow (Nat.lt_of_lt_of_le ha (by rw [show (4294967296 : Nat) = 2 ^ 32 from rfl]; exact Nat.pow_le_pow_right (by omega) (by omega)))] at h
   cases h
theorem nodes_inj (a b : Nat) (ha : a < 4294967296) (hb : b < 4294967296) (h : nodes (a : Int) = nodes (b : Int)) : a = b := by
 apply Nat.eq_of_testBit_eq
 intro j
 have h1 := mem_nodes a j ha
 have h2 := mem_nodes b j hb
 rw [h] at h1
 have h3 := h1.symm.trans h2
 cases hx : a.testBit j <;> cases hy : b.testBit j <;> simp_all
end Go.Proofs.Ytdpolfflemocaaa.Own
namespace Go.Proofs.Ytdpolfflemocaaa.Cl
/-- The nodes of a set, rising. -/
def nd (x : Nat) : List Nat := (List.range 32).filter (x.testBit ·)
theorem mem_nd {x j : Nat} (hx : x < 4294967296) : j ∈ nd x ↔ x.testBit j = true := by
 unfold nd
 rw [List.mem_filter, List.mem_range]
 constructor
 ·exact fun h => h.2
 ·intro h
  refine ⟨?_, h⟩
  apply Classical.byContradiction
  intro hj
  rw [Nat.testBit_lt_two_pow (Nat.lt_of_lt_of_le hx (by rw [show (4294967296 : Nat) = 2 ^ 32 from rfl]; exact Nat.pow_le_pow_right (by omega) (by omega)))] at h
  cases h
theorem nd_nodup (x : Nat) : (nd x).Nodup := List.nodup_range.sublist List.filter_sublist
theorem testBit_one (i j : Nat) : (2 ^ i).testBit j = decide (i = j) := by
  rw [Nat.testBit_two_pow]
/-- A set without one of its nodes. -/
theorem nd_tail {x y i : Nat} {is : List Nat} (h : nd x = i :: is) (hy : ∀ j, y.testBit j = (x.testBit j && decide (i ≠ j))) : nd y = is := by
 have e1 : nd y = (nd x).filter (fun j => decide (i ≠ j)) := by
  unfold nd
  rw [List.filter_filter]
  apply List.filter_congr
  intro j _
  rw [hy j, Bool.and_comm]
 have hn := nd_nodup x
 rw [h] at e1 hn
 rw [e1, List.filter_cons_of_neg (by simp)]
 apply List.filter_eq_self.2
 intro j hj
 simp only [List.nodup_cons] at hn
 simp only [decide_eq_true_eq]
 exact fun e => hn.1 (e ▸ hj)
def Good (adj : Nat → Nat → Bool) (m nt t : Nat) : Prop :=
  (∀ j, t.testBit j = true → m.testBit j = true) ∧ (∀ i j, t.testBit i = true → t.testBit j = true → i ≠ j → adj i j = true) ∧
  (∀ j, m.testBit j = true ∨ nt.testBit j = true → t.testBit j = false → ∃ i, t.testBit i = true ∧ adj i j = false)
theorem good_out {adj : Nat → Nat → Bool} {m nt m' nt' t i : Nat} (hi : m.testBit i = true) (hm : ∀ j, m'.testBit j = (m.testBit j && decide (i ≠ j))) (hn : ∀ j, nt'.testBit j = (nt.testBit j || decide (i = j))) (ht : t.testBit i = false) : Good adj m nt t ↔ Good adj m' nt' t := by
 have key : ∀ j, (m.testBit j = true ∨ nt.testBit j = true) ↔ (m'.testBit j = true ∨ nt'.testBit j = true) := by
  intro j
  rw [hm, hn]
  by_cases e : i = j
  ·subst e; simp [hi]
  ·simp [e]
 unfold Good
 constructor
 ·rintro ⟨a, b, c⟩
  refine ⟨fun j hj => ?_, b, fun j hj => c j ((key j).2 hj)⟩
  rw [hm, a j hj]
  by_cases e : i = j
  ·subst e; rw [ht] at hj; cases hj
  ·simp [e]
 ·rintro ⟨a, b, c⟩
  refine ⟨fun j hj => ?_, b, fun j hj => c j ((key j).1 hj)⟩
  have := a j hj
  rw [hm, Bool.and_eq_true] at this
  exact this.1
theorem good_in {adj : Nat → Nat → Bool} (hs : ∀ i j, adj i j = adj j i) (ha : ∀ i, adj i i = false) {m nt m' nt' t t' i : Nat} (hi : m.testBit i = true) (hm : ∀ j, m'.testBit j = (m.testBit j && adj i j)) (hn : ∀ j, nt'.testBit j = (nt.testBit j && adj i j))
    (ht : ∀ j, t.testBit j = (t'.testBit j || decide (i = j))) (hti : t'.testBit i = false) : Good adj m nt t ↔ Good adj m' nt' t' := by
  unfold Good
  constructor
  · rintro ⟨a, b, c⟩
    refine ⟨fun j hj => ?_, fun x y hx hy hxy => b x y (by rw [ht, hx]; rfl) (by rw [ht, hy]; rfl) hxy, fun j hj h => ?_⟩
    · have h1 : t.testBit j = true := by rw [ht, hj]; rfl
      have h2 : i ≠ j := fun e => by rw [← e, hti] at hj; cases hj
      rw [hm, a j h1, b i j (by rw [ht]; simp) h1 h2]; rfl
    · have hij : adj i j = true := by
        rcases hj with hj | hj
        · rw [hm] at hj; simp at hj; exact hj.2
        · rw [hn] at hj; simp at hj; exact hj.2
      have h2 : i ≠ j := fun e => by rw [← e, ha] at hij; cases hij
      obtain ⟨x, hx, hxj⟩ := c j (by rcases hj with hj | hj; · rw [hm] at hj; simp at hj; exact Or.inl hj.1
                                     · rw [hn] at hj; simp at hj; exact Or.inr hj.1) (by rw [ht, h]; simp [h2])
      refine ⟨x, ?_, hxj⟩
      rw [ht] at hx
      have : i ≠ x := fun e => by rw [← e, hij] at hxj; cases hxj
      simpa [this] using hx
  · rintro ⟨a, b, c⟩
    have hin : ∀ j, t'.testBit j = true → m.testBit j = true ∧ adj i j = true := by
      intro j hj
      have := a j hj
      rw [hm] at this
      simpa using this
    refine ⟨fun j hj => ?_, fun x y hx hy hxy => ?_, fun j hj h => ?_⟩
    · rw [ht] at hj
      by_cases e : i = j
      · exact e ▸ hi
      · exact (hin j (by simpa [e] using hj)).1
    · rw [ht] at hx hy
      by_cases e : i = x
      · subst e
        exact (hin y (by simpa [hxy] using hy)).2
      · by_cases f : i = y
        · subst f
          rw [hs]
          exact (hin x (by simpa [e] using hx)).2
        · exact b x y (by simpa [e] using hx) (by simpa [f] using hy) hxy
    · rw [ht] at h
      simp only [Bool.or_eq_false_iff, decide_eq_false_iff_not] at h
      by_cases hij : adj i j = true
      · obtain ⟨x, hx, hxj⟩ := c j (by rw [hm, hn, hij]; simpa using hj) h.1
        exact ⟨x, by rw [ht, hx]; rfl, hxj⟩
      · exact ⟨i, by rw [ht]; simp, by simpa using hij⟩
/-- What the search finds: with the nodes of m, none of nt being left that could be added. -/
structure CFound (adj : Nat → Nat → Bool) (a m nt : Nat) (ne : Bool) (r : List Nat) : Prop where
  nodup : r.Nodup
  mem : ∀ x, x ∈ r ↔ ∃ t, x = a ||| t ∧ Good adj m nt t ∧ (ne = true → t ≠ 0)
theorem zero_of {t : Nat} (h : ∀ j, t.testBit j = false) : t = 0 := Nat.eq_of_testBit_eq (fun j => by rw [h j]; simp)
theorem CFound.nil {adj : Nat → Nat → Bool} {a m nt : Nat} (hm : m = 0) : CFound adj a m nt true [] := by
 refine ⟨List.nodup_nil, fun x => ⟨fun h => (by cases h), ?_⟩⟩
 rintro ⟨t, rfl, g, ht⟩
 refine absurd (zero_of fun j => ?_) (ht rfl)
 cases h : t.testBit j
 ·rfl
 ·have := g.1 j h; rw [hm] at this; simp at this
theorem CFound.all {adj : Nat → Nat → Bool} {a m nt : Nat} {r : List Nat} (h : ¬ (m = 0 ∧ nt = 0)) (f : CFound adj a m nt true r) : CFound adj a m nt false r := by
 refine ⟨f.nodup, fun x => ?_⟩
 rw [f.mem x]
 constructor
 ·rintro ⟨t, e, g, _⟩; exact ⟨t, e, g, fun h => by cases h⟩
 ·rintro ⟨t, e, g, _⟩
  refine ⟨t, e, g, fun _ ht => h ?_⟩
  subst ht
  have key : ∀ j, ¬ (m.testBit j = true ∨ nt.testBit j = true) := fun j hj => by
   obtain ⟨i, hi, _⟩ := g.2.2 j hj (by simp)
   simp at hi
  exact ⟨zero_of fun j => by have := key j; simp at this; exact this.1, zero_of fun j => by have := key j; simp at this; exact this.2⟩
theorem CFound.one {adj : Nat → Nat → Bool} {a m nt : Nat} (h : m = 0 ∧ nt = 0) : CFound adj a m nt false [a] := by
 refine ⟨by simp, fun x => ?_⟩
 rw [List.mem_singleton]
 constructor
 ·rintro rfl
  refine ⟨0, by simp, ⟨by simp, by simp, fun j hj => ?_⟩, fun h => by cases h⟩
  rw [h.1, h.2] at hj; simp at hj
 ·rintro ⟨t, rfl, g, _⟩
  have : t = 0 := zero_of fun j => by
   cases hj : t.testBit j
   ·rfl
   ·have := g.1 j hj; rw [h.1] at this; simp at this
  rw [this]; simp
theorem CFound.cons {adj : Nat → Nat → Bool} (hs : ∀ i j, adj i j = adj j i) (ha : ∀ i, adj i i = false) {a a1 m m1 m' nt nt1 nt' i : Nat} {r r' : List Nat} (hi : m.testBit i = true) (hd : ∀ j, a.testBit j = true → m.testBit j = false)
    (ha1 : ∀ j, a1.testBit j = (a.testBit j || decide (i = j))) (hm1 : ∀ j, m1.testBit j = (m.testBit j && adj i j)) (hn1 : ∀ j, nt1.testBit j = (nt.testBit j && adj i j))
    (hm' : ∀ j, m'.testBit j = (m.testBit j && decide (i ≠ j))) (hn' : ∀ j, nt'.testBit j = (nt.testBit j || decide (i = j)))
    (f : CFound adj a1 m1 nt1 false r) (f' : CFound adj a m' nt' true r') : CFound adj a m nt true (r ++ r') := by
  have hai : a.testBit i = false := by cases h : a.testBit i; · rfl
                                       · have := hd i h; rw [hi] at this; cases this
  refine ⟨List.nodup_append.2 ⟨f.nodup, f'.nodup, ?_⟩, fun x => ?_⟩
  · rintro x hx y hy rfl
    obtain ⟨t, e1, g1, _⟩ := (f.mem x).1 hx
    obtain ⟨t', e2, g2, _⟩ := (f'.mem x).1 hy
    have h1 : x.testBit i = true := by rw [e1, Nat.testBit_or, ha1]; simp
    have h2 : x.testBit i = false := by
      rw [e2, Nat.testBit_or, hai, Bool.false_or]
      cases h : t'.testBit i
      · rfl
      · have := g2.1 i h; rw [hm'] at this; simp at this
    rw [h1] at h2; cases h2
  · rw [List.mem_append, f.mem x, f'.mem x]
    constructor
    · rintro (⟨t', e, g, _⟩ | ⟨t, e, g, ht⟩)
      · have hti : t'.testBit i = false := by
          cases h : t'.testBit i
          · rfl
          · have := g.1 i h; rw [hm1, ha] at this; simp at this
        have htt : ∀ j, (t' ||| 2 ^ i).testBit j = (t'.testBit j || decide (i = j)) := fun j => by rw [Nat.testBit_or, testBit_one]
        refine ⟨t' ||| 2 ^ i, ?_, (good_in hs ha hi hm1 hn1 htt hti).2 g, fun _ h => ?_⟩
        · rw [e]
          apply Nat.eq_of_testBit_eq
          intro j
          rw [Nat.testBit_or, Nat.testBit_or, ha1, htt]
          cases a.testBit j <;> cases t'.testBit j <;> simp
        · have := htt i; rw [h] at this; simp at this
      · have hti : t.testBit i = false := by
          cases h : t.testBit i
          · rfl
          · have := g.1 i h; rw [hm'] at this; simp at this
        exact ⟨t, e, (good_out hi hm' hn' hti).2 g, ht⟩
    · rintro ⟨t, e, g, ht⟩
      cases hti : t.testBit i
      · exact Or.inr ⟨t, e, (good_out hi hm' hn' hti).1 g, ht⟩
      · refine Or.inl ⟨t ^^^ 2 ^ i, ?_, (good_in hs ha hi hm1 hn1 (t := t) (t' := t ^^^ 2 ^ i) ?_ ?_).1 g, fun h => by cases h⟩
        · rw [e]
          apply Nat.eq_of_testBit_eq
          intro j
          rw [Nat.testBit_or, Nat.testBit_or, ha1, Nat.testBit_xor, testBit_one]
          by_cases h : i = j
          · subst h; simp [hti]
          · simp [h]
        · intro j
          rw [Nat.testBit_xor, testBit_one]
          by_cases h : i = j
          · subst h; simp [hti]
          · simp [h]
        · rw [Nat.testBit_xor, testBit_one, hti]; simp
end Go.Proofs.Ytdpolfflemocaaa.Cl

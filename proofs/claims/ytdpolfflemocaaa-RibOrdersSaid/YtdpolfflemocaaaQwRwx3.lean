/- The declarations of Rwx3 that the claim Qw needs. -/
import Derived.Test.YtdpolfflemocaaaQwTkP
import Derived.Test.YtdpolfflemocaaaQwRwx0
import Derived.WalkSpells
import Derived.Lib.SliceRun
import Derived.Test.YtdpolfflemocaaaQwRwx2
namespace Go.Proofs.Ytdpolfflemocaaa.Rw
open Go.RowKit Go.Proofs.Ytdpolfflemocaaa.Own Go.Proofs.Ytdpolfflemocaaa.Rx Go.Proofs.YtdpolfflemocaaaW.PrintWords Go.Proofs.YtdpolfflemocaaaW.PrintLast Go.Proofs.YtdpolfflemocaaaW.PrintMore
attribute [local go_sem] max2_int min2_int max_two min_two max_three min_three max_four min_four
set_option linter.unusedVariables false
set_option linter.unusedSimpArgs false
mutual
def rib_graph_ring.l0 : Nat → List Int → Int → Int → Option (List Int)
  | 0, _, _, _ => none
  | k + 1, x0, x11, x12 => if x12 < x11 then (if 0 ≤ x12 then (if x12 < (x0.length : Int) then ((rib_set_list.f k (rd x0 x12)).bind fun t134 => (rib_graph_ring.l1 k x0 x12 t134 x11 x12 t134 (t134.length : Int) 0)) else (none)) else (none)) else (some ([] : List Int))
def rib_graph_ring.l1 : Nat → List Int → Int → List Int → Int → Int → List Int → Int → Int → Option (List Int)
  | 0, _, _, _, _, _, _, _, _ => none
  | k + 1, x0, x3, x4, x11, x12, x20, x21, x22 => if x22 < x21 then (if 0 ≤ x22 then (if x22 < (x20.length : Int) then (rib_graph_ring.l2 k x0 x3 x4 (rd x20 x22) x11 x12 x20 x21 x22 x4 (x4.length : Int) 0) else (none)) else (none)) else (rib_graph_ring.l0 k x0 x11 (wrap64 (x12 + 1)))
def rib_graph_ring.l2 : Nat → List Int → Int → List Int → Int → Int → Int → List Int → Int → Int → List Int → Int → Int → Option (List Int)
  | 0, _, _, _, _, _, _, _, _, _, _, _, _ => none
  | k + 1, x0, x3, x4, x6, x11, x12, x20, x21, x22, x26, x27, x28 => if x28 < x27 then (if 0 ≤ x28 then (if x28 < (x26.length : Int) then (if x6 ≥ (rd x26 x28) then (rib_graph_ring.j3 k x0 x3 x4 x6 (rd x26 x28) x11 x12 x20 x21 x22 x26 x27 x28 true) else (if 0 ≤ x6 then (if x6 < (x0.length : Int) then ((rib_set_has.f (rd x0 x6) (rd x26 x28)).bind fun t140 => (rib_graph_ring.j3 k x0 x3 x4 x6 (rd x26 x28) x11 x12 x20 x21 x22 x26 x27 x28 t140)) else (none)) else (none))) else (none)) else (none)) else (rib_graph_ring.l1 k x0 x3 x4 x11 x12 x20 x21 (wrap64 (x22 + 1)))
def rib_graph_ring.j3 : Nat → List Int → Int → List Int → Int → Int → Int → Int → List Int → Int → Int → List Int → Int → Int → Bool → Option (List Int)
  | 0, _, _, _, _, _, _, _, _, _, _, _, _, _, _ => none
  | k + 1, x0, x3, x4, x6, x8, x11, x12, x20, x21, x22, x26, x27, x28, x42 => if x42 = true then (rib_graph_ring.l2 k x0 x3 x4 x6 x11 x12 x20 x21 x22 x26 x27 (wrap64 (x28 + 1))) else ((rib_graph_all.f x0).bind fun t141 => (if 0 ≤ x3 then (if x3 < (x0.length : Int) then ((rib_one.f x3).bind fun t143 => ((rib_graph_way.f k x0 x6 x8 (Go.bits .andNot .u32 (Go.bits .andNot .u32 t141 (rd x0 x3)) t143)).bind fun t144 => ((not_nil.f t144).bind fun t147 => (if t147 = true then (if t144.length < 17592186044416 then (some (t144 ++ [x3])) else (none)) else (rib_graph_ring.l2 k x0 x3 x4 x6 x11 x12 x20 x21 x22 x26 x27 (wrap64 (x28 + 1))))))) else (none)) else (none)))
end
def rib_graph_ring.f (k : Nat) (l0 : List Int) : Option (List Int) := rib_graph_ring.l0 k l0 (l0.length : Int) 0
def rib_graph_ring.T12 : Bool × List (List Nat × List Nat) := (true, [([], []), ([], []), ([], []), ([], []), ([3], [3]), ([], []), ([], []), ([5, 6], [5, 6]), ([7], [7]), ([4, 8], [4, 8]), ([], []), ([10, 4], [10]), ([9, 11], [9, 11]), ([0, 1, 2, 12, 11], [0, 1, 2, 12]), ([13, 13, 0, 1, 2, 3, 4, 5, 6, 7, 8, 9, 10, 11, 12, 13], [13])])
def rib_graph_ring.B12 : List Nat := [0, 0, 0, 0, 8, 0, 0, 96, 224, 504, 0, 1048, 4088, 8191, 16383]
theorem rib_graph_ring.tab12 : rtab .any (opsOf Try.f63 12) = rib_graph_ring.T12 := by kernel_rfl
theorem rib_graph_ring.bits12 : waitsOk rib_graph_ring.T12.2 rib_graph_ring.B12 = true := by kernel_rfl
set_option maxHeartbeats 8000000 in
set_option maxRecDepth 100000 in
theorem rib_graph_ring.calls (k : Nat) (A0 : Option Addr) (c0 : Nat) (l0 : List Int) (r : List Int) (w : World) (hr0 : Kd.C (Kd.int .u32) w A0 l0.length l0) (hc0 : l0.length ≤ c0) (h : rib_graph_ring.f k l0 = some r) :
  Calls Try.prog 63 #[.slice A0 l0.length c0] w fun e w' => ∃ v0_ : Value, e = .returned (v0_) ∧ (r = [] → v0_ = .slice none 0 0) ∧ Kd.R (Kd.int .i64) 3 w' w.heap.size (fun _ => True) v0_ r ∧ Below w.heap.size w w' := by
 have HR0 := Aside0.mk hr0
 have HC0 := Aside0.mk hc0
 clear hr0 hc0
 have HB := Aside0.mk (Below.refl w.heap.size w)
 have H : (rib_graph_ring.l0 k l0 (l0.length : Int) 0) = some r := h
 clear h
 have H' := Aside0.mk H
 clear H
 go_enter Try.func63, Try.ntmps63
 go_wp2
 go_loopg [12] k (fun kq v12 w' => ∃ (x12_1 : Int), v12 = .int .i64 x12_1 ∧ Aside0 (rib_graph_ring.l0 kq l0 (l0.length : Int) x12_1 = some r) ∧ Aside0 (kq ≤ k) ∧ Aside0 (Below w.heap.size w w'))
 case atStart => exact ⟨(0), (by first | rfl | (simp; done) | (simp [*]; done)), H', ⟨Nat.le_refl _⟩, ⟨bl HB⟩⟩
 case round =>
  clear H'
  obtain ⟨x12_1, rfl, HA, HK1, HB⟩ := hrel
  cases gk with
  | zero => exact absurd HA.out (by simp [rib_graph_ring.l0])
  | succ k1 =>
   have H := HA.out
   clear HA
   simp only [rib_graph_ring.l0] at H
   by_cases c2 : x12_1 < (l0.length : Int)
   ·rw [if_pos c2] at H
    have c2b0 : decide (x12_1 < (l0.length : Int)) = true := decide_eq_true c2
    clear c2
    by_cases c3 : 0 ≤ x12_1
    ·rw [if_pos c3] at H
     have c3b0 : decide (0 ≤ x12_1) = true := decide_eq_true c3
     clear c3
     by_cases c4 : x12_1 < (l0.length : Int)
     ·rw [if_pos c4] at H
      have c4b0 : decide (x12_1 < (l0.length : Int)) = true := decide_eq_true c4
      clear c4
      replace H := Option.bind_eq_some_iff.mp H
      obtain ⟨t134, A50, H⟩ := H
      replace H : (rib_graph_ring.l1 k1 l0 x12_1 t134 (l0.length : Int) x12_1 t134 (t134.length : Int) 0) = some r := H
      have A5 := Aside0.mk A50
      clear A50
      have H' := Aside0.mk H
      clear H
      have p133 : 0 ≤ (x12_1 : Int) := ofd
      have q133 : x12_1 < (l0.length : Int) := ofd
      obtain ⟨ad133, e133, hx133_0⟩ := Kd.at_int HR0.out x12_1 p133 q133
      cases e133
      replace hx133_0 := (HB.out.cell (World.block_lt_of_cell? w _ hx133_0)).trans hx133_0
      replace p133 := eq_true p133
      replace q133 := eq_true q133
      go_wp2_with (first | ((with_reducible refine gate_callee (f := 74) rfl ?_); refine gL 19 Try.func74 #[.int .u32 (rd l0 x12_1)] ?_; (with_reducible refine (rib_set_list.calls k1 (rd l0 x12_1) t134 _ A5.out).mono ?_); rintro e w6 ⟨v135, rfl, ho0, hb⟩; refine ⟨_, rfl, ?_⟩; have n0_ := Aside0.mk (Kd.R_lower ho0 (below_size (bl HB))); have n1_ := Aside0.mk (below_step (bl HB) hb); clear HB; have HO136 := n0_; have HB := n1_; clear n0_ n1_; (try clear hb); (try clear hb2); (try clear hk); (try clear hi); (try clear ho0); obtain ⟨Ao7, co7, eo7⟩ := Kd.R_slice HO136.out; subst eo7))
      go_loopg [22] k1 (fun kq v22 w' => ∃ (x22_2 : Int), v22 = .int .i64 x22_2 ∧ Aside0 (rib_graph_ring.l1 kq l0 x12_1 t134 (l0.length : Int) x12_1 t134 (t134.length : Int) x22_2 = some r) ∧ Aside0 (kq ≤ k1) ∧ Aside0 (Kd.R (Kd.int .i64) 3 w' w.heap.size (fun _ => True) (.slice Ao7 t134.length co7) t134) ∧ Aside0 (Kd.R (Kd.int .i64) 3 w' w.heap.size (fun _ => True) (.slice Ao7 t134.length co7) t134) ∧ Aside0 (Below w.heap.size w w'))
      case atStart => exact ⟨(0), (by first | rfl | (simp; done) | (simp [*]; done)), H', ⟨Nat.le_refl _⟩, ⟨rl HO136⟩, ⟨rl HO136⟩, ⟨bl HB⟩⟩
      case round =>
       clear H'
       try clear p1
       try clear q1
       try clear hx1
       try clear c2
       try clear c2b0
       try clear p2
       try clear c3
       try clear c3b0
       try clear c4
       try clear c4b0
       try clear c6
       try clear c7
       try clear hx133_0
       try clear p133
       try clear q133
       obtain ⟨x22_2, rfl, HA, HK2, HO_4, HO_20, HB⟩ := hrel
       cases gk with
       | zero => exact absurd HA.out (by simp [rib_graph_ring.l1])
       | succ k2 =>
        have H := HA.out
        clear HA
        simp only [rib_graph_ring.l1] at H
        by_cases c8 : x22_2 < (t134.length : Int)
        ·rw [if_pos c8] at H
         have c8b0 : decide (x22_2 < (t134.length : Int)) = true := decide_eq_true c8
         clear c8
         by_cases c9 : 0 ≤ x22_2
         ·rw [if_pos c9] at H
          have c9b0 : decide (0 ≤ x22_2) = true := decide_eq_true c9
          clear c9
          by_cases c10 : x22_2 < (t134.length : Int)
          ·rw [if_pos c10] at H
           have c10b0 : decide (x22_2 < (t134.length : Int)) = true := decide_eq_true c10
           clear c10
           have H' := Aside0.mk H
           clear H
           have p137 : 0 ≤ (x22_2 : Int) := ofd
           have q137 : x22_2 < (t134.length : Int) := ofd
           obtain ⟨ad137, e137, hx137_0⟩ := Kd.at_int (Kd.R_reads' HO_20.out).2.2 x22_2 p137 q137
           cases e137
           replace p137 := eq_true p137
           replace q137 := eq_true q137
           go_wp2
           go_loopg [28] k2 (fun kq v28 w' => ∃ (x28_3 : Int), v28 = .int .i64 x28_3 ∧ Aside0 (rib_graph_ring.l2 kq l0 x12_1 t134 (rd t134 x22_2) (l0.length : Int) x12_1 t134 (t134.length : Int) x22_2 t134 (t134.length : Int) x28_3 = some r) ∧ Aside0 (kq ≤ k2) ∧ Aside0 (Kd.R (Kd.int .i64) 3 w' w.heap.size (fun _ => True) (.slice (some ad137) t134.length co7) t134) ∧ Aside0 (Kd.R (Kd.int .i64) 3 w' w.heap.size (fun _ => True) (.slice (some ad137) t134.length co7) t134) ∧ Aside0 (Kd.R (Kd.int .i64) 3 w' w.heap.size (fun _ => True) (.slice (some ad137) t134.length co7) t134) ∧ Aside0 (Below w.heap.size w w'))
           case atStart => exact ⟨(0), (by first | rfl | (simp; done) | (simp [*]; done)), H', ⟨Nat.le_refl _⟩, ⟨rl HO_4⟩, ⟨rl HO_20⟩, ⟨rl HO_4⟩, ⟨bl HB⟩⟩
           case round =>
            clear H'
            try clear c1
            try clear p1
            try clear q1
            try clear hx1
            try clear c2
            try clear c2b0
            try clear p2
            try clear c3
            try clear c3b0
            try clear c4
            try clear c4b0
            try clear c6
            try clear c7
            try clear c8
            try clear c8b0
            try clear c9
            try clear c9b0
            try clear c10
            try clear c10b0
            try clear hx133_0
            try clear hx137_0
            try clear p1
            try clear p133
            try clear p137
            try clear p2
            try clear q1
            try clear q133
            try clear q137
            obtain ⟨x28_3, rfl, HA, HK3, HO_4, HO_20, HO_26, HB⟩ := hrel
            cases gk with
            | zero => exact absurd HA.out (by simp [rib_graph_ring.l2])
            | succ k3 =>
             have H := HA.out
             clear HA
             simp only [rib_graph_ring.l2] at H
             by_cases c11 : x28_3 < (t134.length : Int)
             ·rw [if_pos c11] at H
              have c11b0 : decide (x28_3 < (t134.length : Int)) = true := decide_eq_true c11
              clear c11
              by_cases c12 : 0 ≤ x28_3
              ·rw [if_pos c12] at H
               have c12b0 : decide (0 ≤ x28_3) = true := decide_eq_true c12
               clear c12
               by_cases c13 : x28_3 < (t134.length : Int)
               ·rw [if_pos c13] at H
                have c13b0 : decide (x28_3 < (t134.length : Int)) = true := decide_eq_true c13
                clear c13
                have HC14 := Aside0.mk H
                clear H
                have p138 : 0 ≤ (x28_3 : Int) := ofd
                have q138 : x28_3 < (t134.length : Int) := ofd
                obtain ⟨ad138, e138, hx138_0⟩ := Kd.at_int (Kd.R_reads' HO_26.out).2.2 x28_3 p138 q138
                obtain rfl : ad137 = ad138 := (by injection e138)
                replace p138 := eq_true p138
                replace q138 := eq_true q138
                go_upto_region 11 with (fail)
                go_cut [42] (fun v42 wc => ∃ (kq : Nat) (x42_13 : Bool), v42 = .bool x42_13 ∧ Aside0 (rib_graph_ring.j3 kq l0 x12_1 t134 (rd t134 x22_2) (rd t134 x28_3) (l0.length : Int) x12_1 t134 (t134.length : Int) x22_2 t134 (t134.length : Int) x28_3 x42_13 = some r) ∧ Aside0 (kq ≤ k3) ∧ Aside0 (Kd.R (Kd.int .i64) 3 wc w.heap.size (fun _ => True) (.slice (some ad137) t134.length co7) t134) ∧ Aside0 (Kd.R (Kd.int .i64) 3 wc w.heap.size (fun _ => True) (.slice (some ad137) t134.length co7) t134) ∧ Aside0 (Kd.R (Kd.int .i64) 3 wc w.heap.size (fun _ => True) (.slice (some ad137) t134.length co7) t134) ∧ Aside0 (Below w.heap.size w wc))
                case first =>
                 have H := HC14.out
                 clear HC14
                 by_cases c15 : (rd t134 x22_2) ≥ (rd t134 x28_3)
                 ·rw [if_pos c15] at H
                  have c15b0 : decide ((rd t134 x28_3) ≤ (rd t134 x22_2)) = true := decide_eq_true c15
                  clear c15
                  (first | rw [c15b0] | (simp only [i64_w, i32_w]; rw [c15b0]) | skip)
                  have H' := Aside0.mk H
                  clear H
                  go_wp2
                  go_meet
                  case rel => exact ⟨_, (true), (by first | rfl | (simp; done) | (simp [*]; done)), H', ⟨by have := HK1.out; have := HK2.out; have := HK3.out; first | omega | exact Nat.le_refl _⟩, ⟨rl HO_4⟩, ⟨rl HO_20⟩, ⟨rl HO_26⟩, ⟨bl HB⟩⟩
                 ·rw [if_neg c15] at H
                  have c15b0 : decide ((rd t134 x28_3) ≤ (rd t134 x22_2)) = false := decide_eq_false c15
                  clear c15
                  (first | rw [c15b0] | (simp only [i64_w, i32_w]; rw [c15b0]) | skip)
                  by_cases c16 : 0 ≤ (rd t134 x22_2)
                  ·rw [if_pos c16] at H
                   have c16b0 : decide (0 ≤ (rd t134 x22_2)) = true := decide_eq_true c16
                   clear c16
                   by_cases c17 : (rd t134 x22_2) < (l0.length : Int)
                   ·rw [if_pos c17] at H
                    have c17b0 : decide ((rd t134 x22_2) < (l0.length : Int)) = true := decide_eq_true c17
                    clear c17
                    replace H := Option.bind_eq_some_iff.mp H
                    obtain ⟨t140, A180, H⟩ := H
                    replace H : (rib_graph_ring.j3 k3 l0 x12_1 t134 (rd t134 x22_2) (rd t134 x28_3) (l0.length : Int) x12_1 t134 (t134.length : Int) x22_2 t134 (t134.length : Int) x28_3 t140) = some r := H
                    have A18 := Aside0.mk A180
                    clear A180
                    have H' := Aside0.mk H
                    clear H
                    have p139 : 0 ≤ ((rd t134 x22_2) : Int) := ofd
                    have q139 : (rd t134 x22_2) < (l0.length : Int) := ofd
                    obtain ⟨ad139, e139, hx139_0⟩ := Kd.at_int HR0.out (rd t134 x22_2) p139 q139
                    obtain rfl : ad133 = ad139 := (by injection e139)
                    replace hx139_0 := (HB.out.cell (World.block_lt_of_cell? w _ hx139_0)).trans hx139_0
                    replace p139 := eq_true p139
                    replace q139 := eq_true q139
                    go_wp2_with (first | (go_at_call 60; (with_reducible refine (rib_set_has.calls (rd l0 (rd t134 x22_2)) (rd t134 x28_3) t140 _ A18.out).mono ?_); rintro e w' ⟨rfl, ⟨nd, rfl⟩⟩))
                    go_meet
                    case rel => exact ⟨_, (t140), (by first | rfl | (simp; done) | (simp [*]; done)), H', ⟨by have := HK1.out; have := HK2.out; have := HK3.out; first | omega | exact Nat.le_refl _⟩, ⟨rl HO_4⟩, ⟨rl HO_20⟩, ⟨rl HO_26⟩, ⟨bl HB⟩⟩
                   ·rw [if_neg c17] at H
                    exact absurd H (by simp)
                  ·rw [if_neg c16] at H
                   exact absurd H (by simp)
                case rest =>
                 clear HC14
                 try clear c1
                 try clear p1
                 try clear q1
                 try clear hx1
                 try clear c2
                 try clear c2b0
                 try clear p2
                 try clear c3
                 try clear c3b0
                 try clear c4
                 try clear c4b0
                 try clear c6
                 try clear c7
                 try clear c8
                 try clear c8b0
                 try clear c9
                 try clear c9b0
                 try clear c10
                 try clear c10b0
                 try clear c11
                 try clear c11b0
                 try clear c12
                 try clear c12b0
                 try clear c13
                 try clear c13b0
                 try clear p13
                 try clear q13
                 try clear hx13
                 try clear c15
                 try clear c15b0
                 try clear c16
                 try clear c16b0
                 try clear c17
                 try clear c17b0
                 try clear hx133_0
                 try clear hx137_0
                 try clear hx138_0
                 try clear hx139_0
                 try clear p1
                 try clear p133
                 try clear p137
                 try clear p138
                 try clear p139
                 try clear p2
                 try clear q1
                 try clear q133
                 try clear q137
                 try clear q138
                 try clear q139
                 obtain ⟨kq, x42_13, rfl, HA, HJ13, HO_4, HO_20, HO_26, HB⟩ := hcut
                 cases kq with
                 | zero => exact absurd HA.out (by simp [rib_graph_ring.j3])
                 | succ kj13 =>
                  have H := HA.out
                  clear HA
                  simp only [rib_graph_ring.j3] at H
                  by_cases c19 : x42_13 = true
                  ·subst c19
                   have H1 : (rib_graph_ring.l2 kj13 l0 x12_1 t134 (rd t134 x22_2) (l0.length : Int) x12_1 t134 (t134.length : Int) x22_2 t134 (t134.length : Int) (wrap64 (x28_3 + 1))) = some r := by rw [if_pos rfl] at H; exact H
                   clear H
                   have H := H1
                   clear H1
                   have H' := Aside0.mk H
                   clear H
                   go_wp2
                   go_roundg kj13
                   case measure => have := HK1.out; have := HK2.out; have := HK3.out; have := HJ13.out; omega
                   case rel => exact ⟨(wrap64 (x28_3 + 1)), (by first | rfl | (simp; done) | (simp [*]; done)), H', ⟨by have := HK1.out; have := HK2.out; have := HK3.out; have := HJ13.out; omega⟩, ⟨rl HO_4⟩, ⟨rl HO_20⟩, ⟨rl HO_26⟩, ⟨bl HB⟩⟩
                  ·replace c19 := Bool.eq_false_iff.mpr c19
                   subst c19
                   have H1 : ((rib_graph_all.f l0).bind fun t141 => (if 0 ≤ x12_1 then (if x12_1 < (l0.length : Int) then ((rib_one.f x12_1).bind fun t143 => ((rib_graph_way.f kj13 l0 (rd t134 x22_2) (rd t134 x28_3) (Go.bits .andNot .u32 (Go.bits .andNot .u32 t141 (rd l0 x12_1)) t143)).bind fun t144 => ((not_nil.f t144).bind fun t147 => (if t147 = true then (if t144.length < 17592186044416 then (some (t144 ++ [x12_1])) else (none)) else (rib_graph_ring.l2 kj13 l0 x12_1 t134 (rd t134 x22_2) (l0.length : Int) x12_1 t134 (t134.length : Int) x22_2 t134 (t134.length : Int) (wrap64 (x28_3 + 1))))))) else (none)) else (none))) = some r := by rw [if_neg (show ¬ (false = true) by decide)] at H; exact H
                   clear H
                   have H := H1
                   clear H1
                   replace H := Option.bind_eq_some_iff.mp H
                   obtain ⟨t141, A200, H⟩ := H
                   replace H : (if 0 ≤ x12_1 then (if x12_1 < (l0.length : Int) then ((rib_one.f x12_1).bind fun t143 => ((rib_graph_way.f kj13 l0 (rd t134 x22_2) (rd t134 x28_3) (Go.bits .andNot .u32 (Go.bits .andNot .u32 t141 (rd l0 x12_1)) t143)).bind fun t144 => ((not_nil.f t144).bind fun t147 => (if t147 = true then (if t144.length < 17592186044416 then (some (t144 ++ [x12_1])) else (none)) else (rib_graph_ring.l2 kj13 l0 x12_1 t134 (rd t134 x22_2) (l0.length : Int) x12_1 t134 (t134.length : Int) x22_2 t134 (t134.length : Int) (wrap64 (x28_3 + 1))))))) else (none)) else (none)) = some r := H
                   have A20 := Aside0.mk A200
                   clear A200
                   by_cases c21 : 0 ≤ x12_1
                   ·rw [if_pos c21] at H
                    have c21b0 : decide (0 ≤ x12_1) = true := decide_eq_true c21
                    clear c21
                    by_cases c22 : x12_1 < (l0.length : Int)
                    ·rw [if_pos c22] at H
                     have c22b0 : decide (x12_1 < (l0.length : Int)) = true := decide_eq_true c22
                     clear c22
                     replace H := Option.bind_eq_some_iff.mp H
                     obtain ⟨t143, A230, H⟩ := H
                     replace H : ((rib_graph_way.f kj13 l0 (rd t134 x22_2) (rd t134 x28_3) (Go.bits .andNot .u32 (Go.bits .andNot .u32 t141 (rd l0 x12_1)) t143)).bind fun t144 => ((not_nil.f t144).bind fun t147 => (if t147 = true then (if t144.length < 17592186044416 then (some (t144 ++ [x12_1])) else (none)) else (rib_graph_ring.l2 kj13 l0 x12_1 t134 (rd t134 x22_2) (l0.length : Int) x12_1 t134 (t134.length : Int) x22_2 t134 (t134.length : Int) (wrap64 (x28_3 + 1)))))) = some r := H
                     have A23 := Aside0.mk A230
                     clear A230
                     replace H := Option.bind_eq_some_iff.mp H
                     obtain ⟨t144, A240, H⟩ := H
                     replace H : ((not_nil.f t144).bind fun t147 => (if t147 = true then (if t144.length < 17592186044416 then (some (t144 ++ [x12_1])) else (none)) else (rib_graph_ring.l2 kj13 l0 x12_1 t134 (rd t134 x22_2) (l0.length : Int) x12_1 t134 (t134.length : Int) x22_2 t134 (t134.length : Int) (wrap64 (x28_3 + 1))))) = some r := H
                     have A24 := Aside0.mk A240
                     clear A240
                     replace H := Option.bind_eq_some_iff.mp H
                     obtain ⟨t147, A250, H⟩ := H
                     replace H : (if t147 = true then (if t144.length < 17592186044416 then (some (t144 ++ [x12_1])) else (none)) else (rib_graph_ring.l2 kj13 l0 x12_1 t134 (rd t134 x22_2) (l0.length : Int) x12_1 t134 (t134.length : Int) x22_2 t134 (t134.length : Int) (wrap64 (x28_3 + 1)))) = some r := H
                     have A25 := Aside0.mk A250
                     clear A250
                     by_cases c26 : t147 = true
                     ·subst c26
                      have H1 : (if t144.length < 17592186044416 then (some (t144 ++ [x12_1])) else (none)) = some r := by rw [if_pos rfl] at H; exact H
                      clear H
                      have H := H1
                      clear H1
                      by_cases c27 : t144.length < 17592186044416
                      ·rw [if_pos c27] at H
                       have LMc27 := Aside0.mk c27
                       clear c27
                       obtain ⟨y148, hy148⟩ : ∃ y_ : List Int, y_ = (t144 ++ [x12_1]) := ⟨_, rfl⟩
                       replace H : (some y148) = some r := by first | (rw [hy148]; with_reducible exact H) | (have H2_ := (Option.bind_some _ _).symm.trans H; rw [hy148]; with_reducible exact H2_) | (have H2_ := (Option.bind_some _ _).symm.trans H; with_reducible exact H2_) | with_reducible exact H | (rw [hy148]; exact H) | exact H
                       have Ny148 := Aside0.mk hy148
                       clear hy148
                       obtain rfl := Option.some.inj H
                       try go_wp2
                       have n0_ := Aside0.mk (Kd.R_drew HO_4.out)
                       have n1_ := Aside0.mk (Kd.R_drew HO_20.out)
                       have n2_ := Aside0.mk (Kd.R_drew HO_26.out)
                       have n3_ := Aside0.mk (below_drew1 HB.out)
                       clear HO_4 HO_20 HO_26 HB
                       have HO_4 := n0_; have HO_20 := n1_; have HO_26 := n2_; have HB := n3_
                       clear n0_ n1_ n2_ n3_
                       have p142 : 0 ≤ (x12_1 : Int) := ofd
                       have q142 : x12_1 < (l0.length : Int) := ofd
                       obtain ⟨ad142, e142, hx142_0⟩ := Kd.at_int HR0.out x12_1 p142 q142
                       have hw142_0 := hx142_0
                       obtain rfl : ad133 = ad142 := (by injection e142)
                       replace hx142_0 := (HB.out.cell (World.block_lt_of_cell? w _ hx142_0)).trans hx142_0
                       replace p142 := eq_true p142
                       replace q142 := eq_true q142
                       refine start_ (n := 15) (S := fun w' => w'.cell? (ad133.add (x12_1).toNat) = some (.int .u32 (rd l0 x12_1))) (ds := []) #[false, false, false, false, false, false, false, false, false, false, false, false, false, false, false] (by kernel_rfl) rfl rfl (((HB.out.cell (World.block_lt_of_cell? w _ hw142_0)).trans hw142_0)) (fun hHeld => ?_); refine with_tabW rib_graph_ring.tab12 rib_graph_ring.bits12 (fun HT_ HW_ => ?_)
                       generalize wc.drew = w28 at HO_4 HO_20 HO_26 HB hx142_0 hHeld ⊢
                       refine pr 0 43 HT_ ?_
                       refine pr 1 44 HT_ ?_
                       refine pr 2 45 HT_ ?_
                       refine pr 3 46 HT_ ?_
                       refine pr 5 48 HT_ ?_
                       refine pr 6 49 HT_ ?_
                       refine pr 7 50 HT_ ?_
                       refine pr 10 53 HT_ ?_
                       refine tr 8 51 HT_ HW_ hHeld ?_
                       refine on 4 (some 47) HT_ (fun K hK => ?_)
                       refine gS Try.func65 #[.slice (some ad133) l0.length c0] ?_
                       with_reducible refine (rib_graph_all.calls _ _ l0 t141 _ ?side1 ?side2 A20.out).mono ?_
                       (case side1 => exact cl (Kd.C_below HR0.out HB.out))
                       (case side2 => exact HC0.out)
                       rintro e w' ⟨rfl, ⟨nd, rfl⟩⟩
                       refine ⟨_, rfl, ?_⟩
                       refine hK.out _ _ (((HB.out.cell (World.block_lt_of_cell? w _ hw142_0)).trans hw142_0)) (fun hHeld => ?_)
                       clear hK K
                       refine nr (some 47) ?_
                       refine pr 9 52 HT_ ?_
                       refine on 11 (some 54) HT_ (fun K hK => ?_)
                       refine gS Try.func67 #[.int .i64 x12_1] ?_
                       with_reducible refine (rib_one.calls x12_1 t143 _ A23.out).mono ?_
                       rintro e w' ⟨rfl, ⟨nd, rfl⟩⟩
                       refine ⟨_, rfl, ?_⟩
                       refine hK.out _ _ (((HB.out.cell (World.block_lt_of_cell? w _ hw142_0)).trans hw142_0)) (fun hHeld => ?_)
                       clear hK K
                       refine nr (some 54) ?_
                       refine pr 12 55 HT_ ?_
                       refine on 13 (some 56) HT_ (fun K hK => ?_)
                       refine gS Try.func92 #[.slice (some ad133) l0.length c0, .int .i64 (rd t134 x22_2), .int .i64 (rd t134 x28_3), .int .u32 (Go.bits .andNot .u32 (Go.bits .andNot .u32 t141 (rd l0 x12_1)) t143)] ?_
                       with_reducible refine (rib_graph_way.calls kj13 _ _ l0 (rd t134 x22_2) (rd t134 x28_3) (Go.bits .andNot .u32 (Go.bits .andNot .u32 t141 (rd l0 x12_1)) t143) t144 _ ?side1 ?side2 A24.out).mono ?_
                       (case side1 => exact cl (Kd.C_below HR0.out (bl HB)))
                       (case side2 => exact HC0.out)
                       rintro e w29 ⟨v145, rfl, hn0, ho0, hb⟩
                       have HN := Aside0.mk hn0
                       clear hn0
                       refine ⟨_, rfl, ?_⟩
                       have n0_ := Aside0.mk (Kd.R_elder' (rl HO_4) (Kd.R_base ho0) hb)
                       have n1_ := Aside0.mk (Kd.R_elder' (rl HO_20) (Kd.R_base ho0) hb)
                       have n2_ := Aside0.mk (Kd.R_elder' (rl HO_26) (Kd.R_base ho0) hb)
                       have n3_ := Aside0.mk (Kd.R_lower (Kd.R_new' (Kd.R_new' (Kd.R_new' ho0 (Kd.R_lt (rl HO_4))) (Kd.R_lt (rl HO_20))) (Kd.R_lt (rl HO_26))) (below_size (bl HB)))
                       have n4_ := Aside0.mk (below_step (bl HB) hb)
                       clear HO_4 HO_20 HO_26 HB
                       have HO_4 := n0_; have HO_20 := n1_; have HO_26 := n2_; have HO146 := n3_; have HB := n4_
                       clear n0_ n1_ n2_ n3_ n4_
                       (try clear hb)
                       (try clear hb2)
                       (try clear hk)
                       (try clear hi)
                       (try clear ho0)
                       refine hK.out _ _ (((HB.out.cell (World.block_lt_of_cell? w _ hw142_0)).trans hw142_0)) (fun hHeld => ?_)
                       clear hK K
                       refine nr (some 56) ?_
                       refine pr 14 9 HT_ ?_
                       refine dn HT_ ?_
                       obtain ⟨Ao30, co30, eo30⟩ := Kd.R_slice HO146.out
                       subst eo30
                       have hnn_ : Ao30.isNone = false := by (obtain ⟨g_, c_, e_, _⟩ := Kd.R_form HO146.out (by have q_ := A25.out; unfold not_nil.f at q_; simp at q_; exact List.length_pos_iff.2 q_); injection e_ with e1_ _ _; rw [e1_]; rfl)
                       have hneq_ := fun w_ : World => Go.run_neq_slice_nil_any (P := Try.prog) w_ 34 3 Ao30 t144.length co30 0 0 Try.underlying34
                       simp only [hnn_, Bool.not_false, Bool.not_true] at hneq_
                       try go_wp2_with (first | ((with_reducible refine gate_builtin (b := .append) (xs := #[.tmp 59, .tmp 61]) rfl ?_); at_builtin; refine Kd.R_append (Kd.int .i64) (w0 := w) w.heap.size rfl (.tmp 59) (.tmp 61) 34 3 (.int .i64 0) 8 rfl Try.underlying34 info3 rfl (by decide) (by omega) (.slice Ao30 t144.length co30) t144 x12_1 [.int .i64 x12_1] (fun k_ => some k_ ≠ (.slice (some ad137) t134.length co7 : Value).ownBlock ∧ some k_ ≠ (.slice (some ad137) t134.length co7 : Value).ownBlock ∧ some k_ ≠ (.slice (some ad137) t134.length co7 : Value).ownBlock) (fun _ => False) rfl rfl ?aP (fun _ hk => hk.elim) ?aF ?aO ?aB ?aS ?aL ?_; (case aP => exact rfl); (case aB => exact (bl HB)); (case aF => exact (fun k_ hk => ⟨Kd.fresh' (Kd.R_lt (rl HO_4)) k_ hk, Kd.fresh' (Kd.R_lt (rl HO_20)) k_ hk, Kd.fresh' (Kd.R_lt (rl HO_26)) k_ hk⟩)); (case aO => exact (by (with_reducible repeat (first | apply Kd.R_alloc | apply Kd.R_drewN | apply Kd.R_drew)); exact Kd.R_mono HO146.out (fun _ hk => ⟨hk.1.1.2, ⟨hk.1.2, hk.2⟩⟩))); (case aS => exact (below_size (bl HB))); (case aL => have := LMc27.out; omega); intro v149 w31 ho hb hg hat; rw [← Ny148.out] at ho; have n0_ := Aside0.mk (Kd.R_after (ok := (fun _ => True)) (rl HO_4) hg hat); have n1_ := Aside0.mk (Kd.R_after (ok := (fun _ => True)) (rl HO_20) hg hat); have n2_ := Aside0.mk (Kd.R_after (ok := (fun _ => True)) (rl HO_26) hg hat); have n3_ := Aside0.mk (hb); have n4_ := Aside0.mk (ho); clear HO_4; clear HO_20; clear HO_26; clear HB; clear HO146; have HO_4 := n0_; have HO_20 := n1_; have HO_26 := n2_; have HB := n3_; have HO150 := n4_; clear n0_ n1_ n2_ n3_ n4_; clear ho hb hg hat))
                       go_ret
                       exact ⟨_, by first | rfl | (simp [errW_none, errW_some] <;> rfl) | (simp [*, errW_none, errW_some] <;> rfl), (by first | rfl | (intro _; rfl) | (intro h_; exact absurd h_ (by simp)) | (intro h_; have q_ := Ny148.out; rw [h_] at q_; simp at q_) | simp), by (with_reducible repeat (first | apply Kd.R_alloc | apply Kd.R_drewN | apply Kd.R_drew)); exact Kd.R_mono HO150.out (fun _ hk => trivial), by repeat (first | (with_reducible first | exact HB.out | apply below_alloc | apply pw_below_drewN | apply below_drew1) | exact HB.out)⟩
                      ·rw [if_neg c27] at H
                       exact absurd H (by simp)
                     ·replace c26 := Bool.eq_false_iff.mpr c26
                      subst c26
                      have H1 : (rib_graph_ring.l2 kj13 l0 x12_1 t134 (rd t134 x22_2) (l0.length : Int) x12_1 t134 (t134.length : Int) x22_2 t134 (t134.length : Int) (wrap64 (x28_3 + 1))) = some r := by rw [if_neg (show ¬ (false = true) by decide)] at H; exact H
                      clear H
                      have H := H1
                      clear H1
                      have H' := Aside0.mk H
                      clear H
                      try go_wp2
                      have n0_ := Aside0.mk (Kd.R_drew HO_4.out)
                      have n1_ := Aside0.mk (Kd.R_drew HO_20.out)
                      have n2_ := Aside0.mk (Kd.R_drew HO_26.out)
                      have n3_ := Aside0.mk (below_drew1 HB.out)
                      clear HO_4 HO_20 HO_26 HB
                      have HO_4 := n0_; have HO_20 := n1_; have HO_26 := n2_; have HB := n3_
                      clear n0_ n1_ n2_ n3_
                      have p142 : 0 ≤ (x12_1 : Int) := ofd
                      have q142 : x12_1 < (l0.length : Int) := ofd
                      obtain ⟨ad142, e142, hx142_0⟩ := Kd.at_int HR0.out x12_1 p142 q142
                      have hw142_0 := hx142_0
                      obtain rfl : ad133 = ad142 := (by injection e142)
                      replace hx142_0 := (HB.out.cell (World.block_lt_of_cell? w _ hx142_0)).trans hx142_0
                      replace p142 := eq_true p142
                      replace q142 := eq_true q142
                      refine start_ (n := 15) (S := fun w' => w'.cell? (ad133.add (x12_1).toNat) = some (.int .u32 (rd l0 x12_1))) (ds := []) #[false, false, false, false, false, false, false, false, false, false, false, false, false, false, false] (by kernel_rfl) rfl rfl (((HB.out.cell (World.block_lt_of_cell? w _ hw142_0)).trans hw142_0)) (fun hHeld => ?_); refine with_tabW rib_graph_ring.tab12 rib_graph_ring.bits12 (fun HT_ HW_ => ?_)
                      generalize wc.drew = w32 at HO_4 HO_20 HO_26 HB hx142_0 hHeld ⊢
                      refine pr 0 43 HT_ ?_
                      refine pr 1 44 HT_ ?_
                      refine pr 2 45 HT_ ?_
                      refine pr 3 46 HT_ ?_
                      refine pr 5 48 HT_ ?_
                      refine pr 6 49 HT_ ?_
                      refine pr 7 50 HT_ ?_
                      refine pr 10 53 HT_ ?_
                      refine tr 8 51 HT_ HW_ hHeld ?_
                      refine on 4 (some 47) HT_ (fun K hK => ?_)
                      refine gS Try.func65 #[.slice (some ad133) l0.length c0] ?_
                      with_reducible refine (rib_graph_all.calls _ _ l0 t141 _ ?side1 ?side2 A20.out).mono ?_
                      (case side1 => exact cl (Kd.C_below HR0.out HB.out))
                      (case side2 => exact HC0.out)
                      rintro e w' ⟨rfl, ⟨nd, rfl⟩⟩
                      refine ⟨_, rfl, ?_⟩
                      refine hK.out _ _ (((HB.out.cell (World.block_lt_of_cell? w _ hw142_0)).trans hw142_0)) (fun hHeld => ?_)
                      clear hK K
                      refine nr (some 47) ?_
                      refine pr 9 52 HT_ ?_
                      refine on 11 (some 54) HT_ (fun K hK => ?_)
                      refine gS Try.func67 #[.int .i64 x12_1] ?_
                      with_reducible refine (rib_one.calls x12_1 t143 _ A23.out).mono ?_
                      rintro e w' ⟨rfl, ⟨nd, rfl⟩⟩
                      refine ⟨_, rfl, ?_⟩
                      refine hK.out _ _ (((HB.out.cell (World.block_lt_of_cell? w _ hw142_0)).trans hw142_0)) (fun hHeld => ?_)
                      clear hK K
                      refine nr (some 54) ?_
                      refine pr 12 55 HT_ ?_
                      refine on 13 (some 56) HT_ (fun K hK => ?_)
                      refine gS Try.func92 #[.slice (some ad133) l0.length c0, .int .i64 (rd t134 x22_2), .int .i64 (rd t134 x28_3), .int .u32 (Go.bits .andNot .u32 (Go.bits .andNot .u32 t141 (rd l0 x12_1)) t143)] ?_
                      with_reducible refine (rib_graph_way.calls kj13 _ _ l0 (rd t134 x22_2) (rd t134 x28_3) (Go.bits .andNot .u32 (Go.bits .andNot .u32 t141 (rd l0 x12_1)) t143) t144 _ ?side1 ?side2 A24.out).mono ?_
                      (case side1 => exact cl (Kd.C_below HR0.out (bl HB)))
                      (case side2 => exact HC0.out)
                      rintro e w33 ⟨v145, rfl, hn0, ho0, hb⟩
                      have HN := Aside0.mk hn0
                      clear hn0
                      refine ⟨_, rfl, ?_⟩
                      have n0_ := Aside0.mk (Kd.R_elder' (rl HO_4) (Kd.R_base ho0) hb)
                      have n1_ := Aside0.mk (Kd.R_elder' (rl HO_20) (Kd.R_base ho0) hb)
                      have n2_ := Aside0.mk (Kd.R_elder' (rl HO_26) (Kd.R_base ho0) hb)
                      have n3_ := Aside0.mk (Kd.R_lower (Kd.R_new' (Kd.R_new' (Kd.R_new' ho0 (Kd.R_lt (rl HO_4))) (Kd.R_lt (rl HO_20))) (Kd.R_lt (rl HO_26))) (below_size (bl HB)))
                      have n4_ := Aside0.mk (below_step (bl HB) hb)
                      clear HO_4 HO_20 HO_26 HB
                      have HO_4 := n0_; have HO_20 := n1_; have HO_26 := n2_; have HO146 := n3_; have HB := n4_
                      clear n0_ n1_ n2_ n3_ n4_
                      (try clear hb)
                      (try clear hb2)
                      (try clear hk)
                      (try clear hi)
                      (try clear ho0)
                      refine hK.out _ _ (((HB.out.cell (World.block_lt_of_cell? w _ hw142_0)).trans hw142_0)) (fun hHeld => ?_)
                      clear hK K
                      refine nr (some 56) ?_
                      refine pr 14 9 HT_ ?_
                      refine dn HT_ ?_
                      obtain ⟨Ao34, co34, eo34⟩ := Kd.R_slice HO146.out
                      subst eo34
                      have hnn_ : Ao34.isNone = true := by (have e_ := HN.out (by have q_ := A25.out; unfold not_nil.f at q_; simp at q_; exact q_); injection e_ with e1_ _ _; rw [e1_]; rfl)
                      have hneq_ := fun w_ : World => Go.run_neq_slice_nil_any (P := Try.prog) w_ 34 3 Ao34 t144.length co34 0 0 Try.underlying34
                      simp only [hnn_, Bool.not_false, Bool.not_true] at hneq_
                      try go_wp2
                      go_roundg kj13
                      case measure => have := HK1.out; have := HK2.out; have := HK3.out; have := HJ13.out; omega
                      case rel => exact ⟨(wrap64 (x28_3 + 1)), (by first | rfl | (simp; done) | (simp [*]; done)), H', ⟨by have := HK1.out; have := HK2.out; have := HK3.out; have := HJ13.out; omega⟩, ⟨by (with_reducible repeat (first | apply Kd.R_alloc | apply Kd.R_drewN | apply Kd.R_drew)); exact Kd.R_mono HO_4.out (fun _ hk => trivial)⟩, ⟨by (with_reducible repeat (first | apply Kd.R_alloc | apply Kd.R_drewN | apply Kd.R_drew)); exact Kd.R_mono HO_20.out (fun _ hk => trivial)⟩, ⟨by (with_reducible repeat (first | apply Kd.R_alloc | apply Kd.R_drewN | apply Kd.R_drew)); exact Kd.R_mono HO_26.out (fun _ hk => trivial)⟩, ⟨bl HB⟩⟩
                    ·rw [if_neg c22] at H
                     exact absurd H (by simp)
                   ·rw [if_neg c21] at H
                    exact absurd H (by simp)
               ·rw [if_neg c13] at H
                exact absurd H (by simp)
              ·rw [if_neg c12] at H
               exact absurd H (by simp)
             ·rw [if_neg c11] at H
              have c11b0 : decide (x28_3 < (t134.length : Int)) = false := decide_eq_false c11
              clear c11
              have H' := Aside0.mk H
              clear H
              go_wp2
              go_roundg k3
              case measure => have := HK1.out; have := HK2.out; have := HK3.out; omega
              case rel => exact ⟨(wrap64 (x22_2 + 1)), (by first | rfl | (simp; done) | (simp [*]; done)), H', ⟨by have := HK1.out; have := HK2.out; have := HK3.out; omega⟩, ⟨rl HO_4⟩, ⟨rl HO_20⟩, ⟨bl HB⟩⟩
          ·rw [if_neg c10] at H
           exact absurd H (by simp)
         ·rw [if_neg c9] at H
          exact absurd H (by simp)
        ·rw [if_neg c8] at H
         have c8b0 : decide (x22_2 < (t134.length : Int)) = false := decide_eq_false c8
         clear c8
         have H' := Aside0.mk H
         clear H
         go_wp2
         go_roundg k2
         case measure => have := HK1.out; have := HK2.out; omega
         case rel => exact ⟨(wrap64 (x12_1 + 1)), (by first | rfl | (simp; done) | (simp [*]; done)), H', ⟨by have := HK1.out; have := HK2.out; omega⟩, ⟨bl HB⟩⟩
     ·rw [if_neg c4] at H
      exact absurd H (by simp)
    ·rw [if_neg c3] at H
     exact absurd H (by simp)
   ·rw [if_neg c2] at H
    have c2b0 : decide (x12_1 < (l0.length : Int)) = false := decide_eq_false c2
    clear c2
    obtain rfl := Option.some.inj H
    go_wp2
    go_ret
    exact ⟨_, by first | rfl | (simp [errW_none, errW_some] <;> rfl) | (simp [*, errW_none, errW_some] <;> rfl), (by first | rfl | (intro _; rfl) | (intro h_; exact absurd h_ (by simp)) | (intro h_; have q_ := Ny148.out; rw [h_] at q_; simp at q_) | simp), by first | exact Kd.R_nil _ _ _ _ _ | exact Kd.N_nil _ _ _ _ _ | exact Kd.V_nil _ _ _ _ _ | exact Kd.Q_nil _ _ _ _ _ | exact Kd.S_nil _ _ _ _ _, by repeat (first | (with_reducible first | exact HB.out | apply below_alloc | apply pw_below_drewN | apply below_drew1) | exact HB.out)⟩
end Go.Proofs.Ytdpolfflemocaaa.Rw

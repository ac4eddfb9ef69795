/- The declarations of Lxx10 that the claim Qi needs. -/
import Derived.Test.YtdldfdcedjmneaaQiTkP
import Derived.Test.YtdldfdcedjmneaaQiLxx0
import Derived.Test.YtdldfdcedjmneaaQiLxx1
import Derived.Test.YtdldfdcedjmneaaQiLxx3
import Derived.Test.YtdldfdcedjmneaaQiLxx4
namespace Go.Proofs.Ytdldfdcedjmneaa.Lx
open Go.RowKit Go.Proofs.Ytdldfdcedjmneaa.Own Go.Proofs.YtdldfdcedjmneaaW.PrintWords Go.Proofs.YtdldfdcedjmneaaW.PrintLast Go.Proofs.YtdldfdcedjmneaaW.PrintMore
attribute [local go_sem] max2_int min2_int max_two min_two max_three min_three max_four min_four
set_option linter.unusedVariables false
set_option linter.unusedSimpArgs false
mutual
def gampref05_Permutation.l0 : Nat → List Int → Int → Int → Option (Bool)
  | 0, _, _, _ => none
  | k + 1, x0, x1, x5 => if x5 < (x0.length : Int) then (if 0 ≤ x5 then ((gampref05_in.f (rd x0 x5) 0 (wrap64 (x1 - 1))).bind fun t346 => (if t346 = true then (gampref05_Permutation.l1 k x0 x1 x5 0) else (some false))) else (none)) else (some ((x0.length : Int) == x1))
def gampref05_Permutation.l1 : Nat → List Int → Int → Int → Int → Option (Bool)
  | 0, _, _, _, _ => none
  | k + 1, x0, x1, x5, x6 => if x6 < x5 then (if 0 ≤ x6 then (if x6 < (x0.length : Int) then (if 0 ≤ x5 then (if x5 < (x0.length : Int) then (if (rd x0 x6) = (rd x0 x5) then (some false) else (gampref05_Permutation.l1 k x0 x1 x5 (wrap64 (x6 + 1)))) else (none)) else (none)) else (none)) else (none)) else (gampref05_Permutation.l0 k x0 x1 (wrap64 (x5 + 1)))
end
def gampref05_Permutation.f (k : Nat) (l0 : List Int) (a1 : Int) : Option (Bool) := gampref05_Permutation.l0 k l0 a1 0
set_option maxHeartbeats 8000000 in
set_option maxRecDepth 100000 in
theorem gampref05_Permutation.calls (k : Nat) (A0 : Option Addr) (c0 : Nat) (l0 : List Int) (a1 : Int) (r : Bool) (w : World) (hr0 : Kd.C (Kd.int .i64) w A0 l0.length l0) (hc0 : l0.length ≤ c0) (h : gampref05_Permutation.f k l0 a1 = some r) :
  Calls Try.prog 61 #[.slice A0 l0.length c0, .int .i64 a1] w fun e w' => e = .returned (.bool r) ∧ Drawn0 w w' := by
 have HR0 := Aside0.mk hr0
 have HC0 := Aside0.mk hc0
 clear hr0 hc0
 have H : (gampref05_Permutation.l0 k l0 a1 0) = some r := h
 clear h
 have H' := Aside0.mk H
 clear H
 go_enter Try.func61, Try.ntmps61
 go_wp2
 repeat (go_quiet (fail); try go_wp2)
 go_loopg [5] k (fun kq v5 w' => ∃ (x5_1 : Int), v5 = .int .i64 x5_1 ∧ Aside0 (gampref05_Permutation.l0 kq l0 a1 x5_1 = some r) ∧ Aside0 (kq ≤ k) ∧ Drawn0 w w')
 case atStart => exact ⟨(0), (by first | rfl | (simp; done) | (simp [*]; done)), H', ⟨Nat.le_refl _⟩, by repeat (first | exact Drawn0.refl _ | apply Drawn0.step)⟩
 case round =>
  clear H'
  try clear p2
  obtain ⟨x5_1, rfl, HA, HK1, ⟨m1, rfl⟩⟩ := hrel
  cases gk with
  | zero => exact absurd HA.out (by simp [gampref05_Permutation.l0])
  | succ k1 =>
   have H := HA.out
   clear HA
   simp only [gampref05_Permutation.l0] at H
   by_cases c3 : x5_1 < (l0.length : Int)
   ·rw [if_pos c3] at H
    have c3b0 : decide (x5_1 < (l0.length : Int)) = true := decide_eq_true c3
    clear c3
    by_cases c4 : 0 ≤ x5_1
    ·rw [if_pos c4] at H
     have c4b0 : decide (0 ≤ x5_1) = true := decide_eq_true c4
     clear c4
     replace H := Option.bind_eq_some_iff.mp H
     obtain ⟨t346, A50, H⟩ := H
     replace H : (if t346 = true then (gampref05_Permutation.l1 k1 l0 a1 x5_1 0) else (some false)) = some r := H
     have A5 := Aside0.mk A50
     clear A50
     by_cases c6 : t346 = true
     ·subst c6
      have H1 : (gampref05_Permutation.l1 k1 l0 a1 x5_1 0) = some r := by rw [if_pos rfl] at H; exact H
      clear H
      have H := H1
      clear H1
      have H' := Aside0.mk H
      clear H
      have p345 : 0 ≤ (x5_1 : Int) := ofd
      have q345 : x5_1 < (l0.length : Int) := ofd
      obtain ⟨ad345, e345, hx345_0⟩ := Kd.at_int HR0.out x5_1 p345 q345
      cases e345
      replace p345 := eq_true p345
      replace q345 := eq_true q345
      go_wp2_with (first | (go_at_call 54; (with_reducible refine (gampref05_in.calls (rd l0 x5_1) 0 (wrap64 (a1 - 1)) true _ A5.out).mono ?_); rintro e w' ⟨rfl, ⟨nd, rfl⟩⟩; (try first | exact ⟨rfl, _, World.drewN_drewN _ _ _⟩ | exact ⟨rfl, _, Eq.trans (World.drewN_drewN _ _ _) (congrArg (World.drewN _) (Nat.add_assoc _ _ _))⟩)))
      repeat (go_quiet (first | (go_at_call 54; (with_reducible refine (gampref05_in.calls (rd l0 x5_1) 0 (wrap64 (a1 - 1)) true _ A5.out).mono ?_); rintro e w' ⟨rfl, ⟨nd, rfl⟩⟩; (try first | exact ⟨rfl, _, World.drewN_drewN _ _ _⟩ | exact ⟨rfl, _, Eq.trans (World.drewN_drewN _ _ _) (congrArg (World.drewN _) (Nat.add_assoc _ _ _))⟩))); try go_wp2_with (first | (go_at_call 54; (with_reducible refine (gampref05_in.calls (rd l0 x5_1) 0 (wrap64 (a1 - 1)) true _ A5.out).mono ?_); rintro e w' ⟨rfl, ⟨nd, rfl⟩⟩; (try first | exact ⟨rfl, _, World.drewN_drewN _ _ _⟩ | exact ⟨rfl, _, Eq.trans (World.drewN_drewN _ _ _) (congrArg (World.drewN _) (Nat.add_assoc _ _ _))⟩))))
      go_loopg [6] k1 (fun kq v6 w' => ∃ (x6_2 : Int), v6 = .int .i64 x6_2 ∧ Aside0 (gampref05_Permutation.l1 kq l0 a1 x5_1 x6_2 = some r) ∧ Aside0 (kq ≤ k1) ∧ Drawn0 w w')
      case atStart => exact ⟨(0), (by first | rfl | (simp; done) | (simp [*]; done)), H', ⟨Nat.le_refl _⟩, by repeat (first | exact Drawn0.refl _ | apply Drawn0.step)⟩
      case round =>
       clear H'
       try clear p2
       try clear c3
       try clear c3b0
       try clear p3
       try clear q3
       try clear hx3
       try clear c4
       try clear c4b0
       try clear c6
       try clear p6
       try clear hx345_0
       try clear p2
       try clear p345
       try clear q345
       obtain ⟨x6_2, rfl, HA, HK2, ⟨m2, rfl⟩⟩ := hrel
       cases gk with
       | zero => exact absurd HA.out (by simp [gampref05_Permutation.l1])
       | succ k2 =>
        have H := HA.out
        clear HA
        simp only [gampref05_Permutation.l1] at H
        by_cases c7 : x6_2 < x5_1
        ·rw [if_pos c7] at H
         have c7b0 : decide (x6_2 < x5_1) = true := decide_eq_true c7
         clear c7
         by_cases c8 : 0 ≤ x6_2
         ·rw [if_pos c8] at H
          have c8b0 : decide (0 ≤ x6_2) = true := decide_eq_true c8
          clear c8
          by_cases c9 : x6_2 < (l0.length : Int)
          ·rw [if_pos c9] at H
           have c9b0 : decide (x6_2 < (l0.length : Int)) = true := decide_eq_true c9
           clear c9
           by_cases c10 : 0 ≤ x5_1
           ·rw [if_pos c10] at H
            have c10b0 : decide (0 ≤ x5_1) = true := decide_eq_true c10
            clear c10
            by_cases c11 : x5_1 < (l0.length : Int)
            ·rw [if_pos c11] at H
             have c11b0 : decide (x5_1 < (l0.length : Int)) = true := decide_eq_true c11
             clear c11
             by_cases c12 : (rd l0 x6_2) = (rd l0 x5_1)
             ·rw [if_pos c12] at H
              have c12b0 : ((rd l0 x6_2) == (rd l0 x5_1)) = true := beq_iff_eq.mpr c12
              have c12b1 : ((rd l0 x6_2) != (rd l0 x5_1)) = false := bne_eq_false_iff_eq.mpr c12
              clear c12
              obtain rfl := Option.some.inj H
              have p347 : 0 ≤ (x6_2 : Int) := ofd
              have q347 : x6_2 < (l0.length : Int) := ofd
              obtain ⟨ad347, e347, hx347_0⟩ := Kd.at_int HR0.out x6_2 p347 q347
              obtain rfl : ad345 = ad347 := (by injection e347)
              replace p347 := eq_true p347
              replace q347 := eq_true q347
              have p348 : 0 ≤ (x5_1 : Int) := ofd
              have q348 : x5_1 < (l0.length : Int) := ofd
              obtain ⟨ad348, e348, hx348_0⟩ := Kd.at_int HR0.out x5_1 p348 q348
              obtain rfl : ad345 = ad348 := (by injection e348)
              replace p348 := eq_true p348
              replace q348 := eq_true q348
              go_wp2
              repeat (go_quiet (fail); try go_wp2)
              go_ret
              exact ⟨by first | rfl | (simp; done) | (simp [*]; done), by repeat (first | exact Drawn0.refl _ | apply Drawn0.step)⟩
             ·rw [if_neg c12] at H
              have c12b0 : ((rd l0 x6_2) == (rd l0 x5_1)) = false := beq_eq_false_iff_ne.mpr c12
              have c12b1 : ((rd l0 x6_2) != (rd l0 x5_1)) = true := bne_iff_ne.mpr c12
              have H' := Aside0.mk H
              clear H
              have p347 : 0 ≤ (x6_2 : Int) := ofd
              have q347 : x6_2 < (l0.length : Int) := ofd
              obtain ⟨ad347, e347, hx347_0⟩ := Kd.at_int HR0.out x6_2 p347 q347
              obtain rfl : ad345 = ad347 := (by injection e347)
              replace p347 := eq_true p347
              replace q347 := eq_true q347
              have p348 : 0 ≤ (x5_1 : Int) := ofd
              have q348 : x5_1 < (l0.length : Int) := ofd
              obtain ⟨ad348, e348, hx348_0⟩ := Kd.at_int HR0.out x5_1 p348 q348
              obtain rfl : ad345 = ad348 := (by injection e348)
              replace p348 := eq_true p348
              replace q348 := eq_true q348
              go_wp2
              repeat (go_quiet (fail); try go_wp2)
              go_roundg k2
              case measure => have := HK1.out; have := HK2.out; omega
              case rel => exact ⟨(wrap64 (x6_2 + 1)), (by first | rfl | (simp; done) | (simp [*]; done)), H', ⟨by have := HK1.out; have := HK2.out; omega⟩, by repeat (first | exact Drawn0.refl _ | apply Drawn0.step)⟩
            ·rw [if_neg c11] at H
             exact absurd H (by simp)
           ·rw [if_neg c10] at H
            exact absurd H (by simp)
          ·rw [if_neg c9] at H
           exact absurd H (by simp)
         ·rw [if_neg c8] at H
          exact absurd H (by simp)
        ·rw [if_neg c7] at H
         have c7b0 : decide (x6_2 < x5_1) = false := decide_eq_false c7
         clear c7
         have H' := Aside0.mk H
         clear H
         go_wp2
         repeat (go_quiet (fail); try go_wp2)
         go_roundg k2
         case measure => have := HK1.out; have := HK2.out; omega
         case rel => exact ⟨(wrap64 (x5_1 + 1)), (by first | rfl | (simp; done) | (simp [*]; done)), H', ⟨by have := HK1.out; have := HK2.out; omega⟩, by repeat (first | exact Drawn0.refl _ | apply Drawn0.step)⟩
     ·replace c6 := Bool.eq_false_iff.mpr c6
      subst c6
      have H1 : (some false) = some r := by rw [if_neg (show ¬ (false = true) by decide)] at H; exact H
      clear H
      have H := H1
      clear H1
      obtain rfl := Option.some.inj H
      have p345 : 0 ≤ (x5_1 : Int) := ofd
      have q345 : x5_1 < (l0.length : Int) := ofd
      obtain ⟨ad345, e345, hx345_0⟩ := Kd.at_int HR0.out x5_1 p345 q345
      cases e345
      replace p345 := eq_true p345
      replace q345 := eq_true q345
      go_wp2_with (first | (go_at_call 54; (with_reducible refine (gampref05_in.calls (rd l0 x5_1) 0 (wrap64 (a1 - 1)) false _ A5.out).mono ?_); rintro e w' ⟨rfl, ⟨nd, rfl⟩⟩; (try first | exact ⟨rfl, _, World.drewN_drewN _ _ _⟩ | exact ⟨rfl, _, Eq.trans (World.drewN_drewN _ _ _) (congrArg (World.drewN _) (Nat.add_assoc _ _ _))⟩)))
      repeat (go_quiet (first | (go_at_call 54; (with_reducible refine (gampref05_in.calls (rd l0 x5_1) 0 (wrap64 (a1 - 1)) false _ A5.out).mono ?_); rintro e w' ⟨rfl, ⟨nd, rfl⟩⟩; (try first | exact ⟨rfl, _, World.drewN_drewN _ _ _⟩ | exact ⟨rfl, _, Eq.trans (World.drewN_drewN _ _ _) (congrArg (World.drewN _) (Nat.add_assoc _ _ _))⟩))); try go_wp2_with (first | (go_at_call 54; (with_reducible refine (gampref05_in.calls (rd l0 x5_1) 0 (wrap64 (a1 - 1)) false _ A5.out).mono ?_); rintro e w' ⟨rfl, ⟨nd, rfl⟩⟩; (try first | exact ⟨rfl, _, World.drewN_drewN _ _ _⟩ | exact ⟨rfl, _, Eq.trans (World.drewN_drewN _ _ _) (congrArg (World.drewN _) (Nat.add_assoc _ _ _))⟩))))
      go_ret
      exact ⟨by first | rfl | (simp; done) | (simp [*]; done), by repeat (first | exact Drawn0.refl _ | apply Drawn0.step)⟩
    ·rw [if_neg c4] at H
     exact absurd H (by simp)
   ·rw [if_neg c3] at H
    have c3b0 : decide (x5_1 < (l0.length : Int)) = false := decide_eq_false c3
    clear c3
    obtain rfl := Option.some.inj H
    go_wp2
    repeat (go_quiet (fail); try go_wp2)
    go_ret
    exact ⟨by first | rfl | (simp; done) | (simp [*]; done), by repeat (first | exact Drawn0.refl _ | apply Drawn0.step)⟩
def gampref05_Is.l0 : Nat → Int → Int → Int → List (List Int) → Option (Bool)
  | 0, _, _, _, _ => none
  | k + 1, x0, x5, x350000, x350001 => if x5 < (x350001.length : Int) then (if 0 ≤ x5 then ((gampref05_Permutation.f k (rd_L1 x350001 x5) x0).bind fun t351 => (if t351 = true then ((gampref05_One.f k x0).bind fun t352 => ((gampref05_Same.f k (rd_L1 x350001 x5) t352).bind fun t355 => (if t355 = true then (some false) else ((gampref05_Half.f k x0).bind fun t356 => ((gampref05_Same.f k (rd_L1 x350001 x5) t356).bind fun t359 => (if t359 = true then (some false) else (if x5 > 0 then (if 0 ≤ (wrap64 (x5 - 1)) then (if (wrap64 (x5 - 1)) < (x350001.length : Int) then ((gampref05_wrong.f k (rd_L1 x350001 (wrap64 (x5 - 1))) (rd_L1 x350001 x5)).bind fun t361 => (if t361 ≥ 0 then (some false) else (gampref05_Is.l0 k x0 (wrap64 (x5 + 1)) x350000 x350001))) else (none)) else (none)) else (gampref05_Is.l0 k x0 (wrap64 (x5 + 1)) x350000 x350001)))))))) else (some false))) else (none)) else (some true)
def gampref05_Is.f (k : Nat) (a0 : Int) (a1_0 : Int) (l1_1 : List (List Int)) : Option (Bool) := gampref05_Is.l0 k a0 0 a1_0 l1_1
set_option maxHeartbeats 8000000 in
set_option maxRecDepth 100000 in
theorem gampref05_Is.calls (k : Nat) (a0 : Int) (a1_0 : Int) (A1_1 : Option Addr) (c1_1 : Nat) (l1_1 : List (List Int)) (r : Bool) (w : World) (hr1_1 : Kd.C (Kd.slice 3 (Kd.int .i64)) w A1_1 l1_1.length l1_1) (hc1_1 : l1_1.length ≤ c1_1) (h : gampref05_Is.f k a0 a1_0 l1_1 = some r) :
  Calls Try.prog 30 #[.int .i64 a0, .agg #[.int .i64 a1_0, .slice A1_1 l1_1.length c1_1]] w fun e w' => e = .returned (.bool r) ∧ Below w.heap.size w w' := by
 have hu26 := Try.underlying26
 have HR1_1 := Aside0.mk hr1_1
 have HC1_1 := Aside0.mk hc1_1
 clear hr1_1 hc1_1
 have HB := Aside0.mk (Below.refl w.heap.size w)
 have H : (gampref05_Is.l0 k a0 0 a1_0 l1_1) = some r := h
 clear h
 have H' := Aside0.mk H
 clear H
 go_enter Try.func30, Try.ntmps30
 go_wp2_with (first | ((with_reducible refine gate_dst (N := 3) rfl ?_); refine box_event ?hg (N := 3) ?hd (cs := #[.int .i64 a1_0, .slice A1_1 l1_1.length c1_1]) (t := 26) ?hr ?_; (case hd => rfl); (case hg => rfl); (case hr => first | (go_simp; done) | (go_simp; rfl)); intro gb349 hg w3 hbox hb; have n0_ := Aside0.mk (below_step (bl HB) hb); have n1_ := Aside0.mk (hbox); have n2_ := Aside0.mk ((by rw [hg]; exact (below_size (bl HB)) : w.heap.size ≤ gb349)); have n3_ := Aside0.mk ((by rw [hg]; exact (below_size (bl HB)) : w.heap.size ≤ gb349)); clear HB; have HB := n0_; have BK349 := n1_; have GW349 := n2_; have GE349 := n3_; clear n0_ n1_ n2_ n3_; clear hb hbox hg))
 go_loopg [5] k (fun kq v5 w' => ∃ (x5_1 : Int), v5 = .int .i64 x5_1 ∧ Aside0 (gampref05_Is.l0 kq a0 x5_1 a1_0 l1_1 = some r) ∧ Aside0 (kq ≤ k) ∧ Aside0 (w'.heap[gb349]? = some (.cells #[.int .i64 a1_0, (.slice A1_1 l1_1.length c1_1)] 26 (0, 0))) ∧ Aside0 (Below w.heap.size w w'))
 case atStart => exact ⟨(0), (by first | rfl | (simp; done) | (simp [*]; done)), H', ⟨Nat.le_refl _⟩, ⟨bk BK349⟩, ⟨bl HB⟩⟩
 case round =>
  clear H'
  try clear c1
  try clear p2
  try clear c3
  obtain ⟨x5_1, rfl, HA, HK1, BK349, HB⟩ := hrel
  cases gk with
  | zero => exact absurd HA.out (by simp [gampref05_Is.l0])
  | succ k1 =>
   have H := HA.out
   clear HA
   simp only [gampref05_Is.l0] at H
   by_cases c4 : x5_1 < (l1_1.length : Int)
   ·rw [if_pos c4] at H
    have c4b0 : decide (x5_1 < (l1_1.length : Int)) = true := decide_eq_true c4
    clear c4
    by_cases c5 : 0 ≤ x5_1
    ·rw [if_pos c5] at H
     have c5b0 : decide (0 ≤ x5_1) = true := decide_eq_true c5
     clear c5
     replace H := Option.bind_eq_some_iff.mp H
     obtain ⟨t351, A60, H⟩ := H
     replace H : (if t351 = true then ((gampref05_One.f k1 a0).bind fun t352 => ((gampref05_Same.f k1 (rd_L1 l1_1 x5_1) t352).bind fun t355 => (if t355 = true then (some false) else ((gampref05_Half.f k1 a0).bind fun t356 => ((gampref05_Same.f k1 (rd_L1 l1_1 x5_1) t356).bind fun t359 => (if t359 = true then (some false) else (if x5_1 > 0 then (if 0 ≤ (wrap64 (x5_1 - 1)) then (if (wrap64 (x5_1 - 1)) < (l1_1.length : Int) then ((gampref05_wrong.f k1 (rd_L1 l1_1 (wrap64 (x5_1 - 1))) (rd_L1 l1_1 x5_1)).bind fun t361 => (if t361 ≥ 0 then (some false) else (gampref05_Is.l0 k1 a0 (wrap64 (x5_1 + 1)) a1_0 l1_1))) else (none)) else (none)) else (gampref05_Is.l0 k1 a0 (wrap64 (x5_1 + 1)) a1_0 l1_1)))))))) else (some false)) = some r := H
     have A6 := Aside0.mk A60
     clear A60
     by_cases c7 : t351 = true
     ·subst c7
      have H1 : ((gampref05_One.f k1 a0).bind fun t352 => ((gampref05_Same.f k1 (rd_L1 l1_1 x5_1) t352).bind fun t355 => (if t355 = true then (some false) else ((gampref05_Half.f k1 a0).bind fun t356 => ((gampref05_Same.f k1 (rd_L1 l1_1 x5_1) t356).bind fun t359 => (if t359 = true then (some false) else (if x5_1 > 0 then (if 0 ≤ (wrap64 (x5_1 - 1)) then (if (wrap64 (x5_1 - 1)) < (l1_1.length : Int) then ((gampref05_wrong.f k1 (rd_L1 l1_1 (wrap64 (x5_1 - 1))) (rd_L1 l1_1 x5_1)).bind fun t361 => (if t361 ≥ 0 then (some false) else (gampref05_Is.l0 k1 a0 (wrap64 (x5_1 + 1)) a1_0 l1_1))) else (none)) else (none)) else (gampref05_Is.l0 k1 a0 (wrap64 (x5_1 + 1)) a1_0 l1_1)))))))) = some r := by rw [if_pos rfl] at H; exact H
      clear H
      have H := H1
      clear H1
      replace H := Option.bind_eq_some_iff.mp H
      obtain ⟨t352, A80, H⟩ := H
      replace H : ((gampref05_Same.f k1 (rd_L1 l1_1 x5_1) t352).bind fun t355 => (if t355 = true then (some false) else ((gampref05_Half.f k1 a0).bind fun t356 => ((gampref05_Same.f k1 (rd_L1 l1_1 x5_1) t356).bind fun t359 => (if t359 = true then (some false) else (if x5_1 > 0 then (if 0 ≤ (wrap64 (x5_1 - 1)) then (if (wrap64 (x5_1 - 1)) < (l1_1.length : Int) then ((gampref05_wrong.f k1 (rd_L1 l1_1 (wrap64 (x5_1 - 1))) (rd_L1 l1_1 x5_1)).bind fun t361 => (if t361 ≥ 0 then (some false) else (gampref05_Is.l0 k1 a0 (wrap64 (x5_1 + 1)) a1_0 l1_1))) else (none)) else (none)) else (gampref05_Is.l0 k1 a0 (wrap64 (x5_1 + 1)) a1_0 l1_1))))))) = some r := H
      have A8 := Aside0.mk A80
      clear A80
      replace H := Option.bind_eq_some_iff.mp H
      obtain ⟨t355, A90, H⟩ := H
      replace H : (if t355 = true then (some false) else ((gampref05_Half.f k1 a0).bind fun t356 => ((gampref05_Same.f k1 (rd_L1 l1_1 x5_1) t356).bind fun t359 => (if t359 = true then (some false) else (if x5_1 > 0 then (if 0 ≤ (wrap64 (x5_1 - 1)) then (if (wrap64 (x5_1 - 1)) < (l1_1.length : Int) then ((gampref05_wrong.f k1 (rd_L1 l1_1 (wrap64 (x5_1 - 1))) (rd_L1 l1_1 x5_1)).bind fun t361 => (if t361 ≥ 0 then (some false) else (gampref05_Is.l0 k1 a0 (wrap64 (x5_1 + 1)) a1_0 l1_1))) else (none)) else (none)) else (gampref05_Is.l0 k1 a0 (wrap64 (x5_1 + 1)) a1_0 l1_1)))))) = some r := H
      have A9 := Aside0.mk A90
      clear A90
      by_cases c10 : t355 = true
      ·subst c10
       have H1 : (some false) = some r := by rw [if_pos rfl] at H; exact H
       clear H
       have H := H1
       clear H1
       obtain rfl := Option.some.inj H
       have hcz11_0 : wr.cell? ⟨gb349, 0, none⟩ = some (.int .i64 a1_0) := (blk_cell BK349.out 0).trans rfl
       have hcz11_1 : wr.cell? ⟨gb349, 1, none⟩ = some (.slice A1_1 l1_1.length c1_1) := (blk_cell BK349.out 1).trans rfl
       have hfz11_0 := blk_frozen BK349.out 0
       have hfz11_1 := blk_frozen BK349.out 1
       have p350 : 0 ≤ (x5_1 : Int) := ofd
       have q350 : x5_1 < (l1_1.length : Int) := ofd
       obtain ⟨ad350, A350_0, c350_0, e350, hx350_0, hl350_0, hi350_0⟩ := at_L1 HR1_1.out x5_1 p350 q350
       cases e350
       replace hx350_0 := (HB.out.cell (World.block_lt_of_cell? w _ hx350_0)).trans hx350_0
       have HR350_0 := Aside0.mk hi350_0
       have HC350_0 := Aside0.mk hl350_0
       clear hi350_0 hl350_0
       replace p350 := eq_true p350
       replace q350 := eq_true q350
       go_wp2_with (first | ((with_reducible refine gate_callee (f := 61) rfl ?_); refine gL 21 Try.func61 #[.slice A350_0 (rd_L1 l1_1 x5_1).length c350_0, .int .i64 a0] ?_; (with_reducible refine (gampref05_Permutation.calls k1 _ _ (rd_L1 l1_1 x5_1) a0 true _ ?side1 ?side2 A6.out).mono ?_); (case side1 => exact cl (Kd.C_below HR350_0.out HB.out)); (case side2 => exact HC350_0.out); rintro e w' ⟨rfl, ⟨nd, rfl⟩⟩; refine ⟨_, rfl, ?_⟩) | (go_at_call 57; (with_reducible refine (gampref05_One.calls k1 a0 t352 _ A8.out).mono ?_); rintro e w12 ⟨v353, rfl, ho0, hb⟩; have n0_ := Aside0.mk (Kd.R_lower ho0 (below_size (bl HB))); have n1_ := Aside0.mk (blk_below (g := gb349) (o := .cells #[.int .i64 a1_0, .slice (some ad350) l1_1.length c1_1] 26 (0, 0)) (bk BK349) hb); have n2_ := Aside0.mk (below_step (bl HB) hb); clear BK349; clear HB; have HO354 := n0_; have BK349 := n1_; have HB := n2_; clear n0_ n1_ n2_; (try clear hb); (try clear hb2); (try clear hk); (try clear hi); (try clear ho0); obtain ⟨Ao13, co13, eo13⟩ := Kd.R_slice HO354.out; subst eo13) | (go_at_call 47; (with_reducible refine (gampref05_Same.calls k1 _ _ (rd_L1 l1_1 x5_1) _ _ t352 true _ ?side1 ?side2 ?side3 ?side4 A9.out).mono ?_); (case side1 => exact cl (Kd.C_below HR350_0.out HB.out)); (case side2 => exact HC350_0.out); (case side3 => exact cl ((Kd.R_reads' HO354.out).2.2)); (case side4 => exact (Kd.R_reads' HO354.out).2.1); rintro e w' ⟨rfl, ⟨nd, rfl⟩⟩))
       go_ret
       exact ⟨by first | rfl | (simp [errW_none, errW_some] <;> rfl) | (simp [*, errW_none, errW_some] <;> rfl), by repeat (first | (with_reducible first | exact HB.out | apply below_alloc | apply pw_below_drewN | apply below_drew1 | refine below_set ?_ GE349.out) | exact HB.out)⟩
      ·replace c10 := Bool.eq_false_iff.mpr c10
       subst c10
       have H1 : ((gampref05_Half.f k1 a0).bind fun t356 => ((gampref05_Same.f k1 (rd_L1 l1_1 x5_1) t356).bind fun t359 => (if t359 = true then (some false) else (if x5_1 > 0 then (if 0 ≤ (wrap64 (x5_1 - 1)) then (if (wrap64 (x5_1 - 1)) < (l1_1.length : Int) then ((gampref05_wrong.f k1 (rd_L1 l1_1 (wrap64 (x5_1 - 1))) (rd_L1 l1_1 x5_1)).bind fun t361 => (if t361 ≥ 0 then (some false) else (gampref05_Is.l0 k1 a0 (wrap64 (x5_1 + 1)) a1_0 l1_1))) else (none)) else (none)) else (gampref05_Is.l0 k1 a0 (wrap64 (x5_1 + 1)) a1_0 l1_1))))) = some r := by rw [if_neg (show ¬ (false = true) by decide)] at H; exact H
       clear H
       have H := H1
       clear H1
       replace H := Option.bind_eq_some_iff.mp H
       obtain ⟨t356, A140, H⟩ := H
       replace H : ((gampref05_Same.f k1 (rd_L1 l1_1 x5_1) t356).bind fun t359 => (if t359 = true then (some false) else (if x5_1 > 0 then (if 0 ≤ (wrap64 (x5_1 - 1)) then (if (wrap64 (x5_1 - 1)) < (l1_1.length : Int) then ((gampref05_wrong.f k1 (rd_L1 l1_1 (wrap64 (x5_1 - 1))) (rd_L1 l1_1 x5_1)).bind fun t361 => (if t361 ≥ 0 then (some false) else (gampref05_Is.l0 k1 a0 (wrap64 (x5_1 + 1)) a1_0 l1_1))) else (none)) else (none)) else (gampref05_Is.l0 k1 a0 (wrap64 (x5_1 + 1)) a1_0 l1_1)))) = some r := H
       have A14 := Aside0.mk A140
       clear A140
       replace H := Option.bind_eq_some_iff.mp H
       obtain ⟨t359, A150, H⟩ := H
       replace H : (if t359 = true then (some false) else (if x5_1 > 0 then (if 0 ≤ (wrap64 (x5_1 - 1)) then (if (wrap64 (x5_1 - 1)) < (l1_1.length : Int) then ((gampref05_wrong.f k1 (rd_L1 l1_1 (wrap64 (x5_1 - 1))) (rd_L1 l1_1 x5_1)).bind fun t361 => (if t361 ≥ 0 then (some false) else (gampref05_Is.l0 k1 a0 (wrap64 (x5_1 + 1)) a1_0 l1_1))) else (none)) else (none)) else (gampref05_Is.l0 k1 a0 (wrap64 (x5_1 + 1)) a1_0 l1_1))) = some r := H
       have A15 := Aside0.mk A150
       clear A150
       by_cases c16 : t359 = true
       ·subst c16
        have H1 : (some false) = some r := by rw [if_pos rfl] at H; exact H
        clear H
        have H := H1
        clear H1
        obtain rfl := Option.some.inj H
        have hcz17_0 : wr.cell? ⟨gb349, 0, none⟩ = some (.int .i64 a1_0) := (blk_cell BK349.out 0).trans rfl
        have hcz17_1 : wr.cell? ⟨gb349, 1, none⟩ = some (.slice A1_1 l1_1.length c1_1) := (blk_cell BK349.out 1).trans rfl
        have hfz17_0 := blk_frozen BK349.out 0
        have hfz17_1 := blk_frozen BK349.out 1
        have p350 : 0 ≤ (x5_1 : Int) := ofd
        have q350 : x5_1 < (l1_1.length : Int) := ofd
        obtain ⟨ad350, A350_0, c350_0, e350, hx350_0, hl350_0, hi350_0⟩ := at_L1 HR1_1.out x5_1 p350 q350
        cases e350
        replace hx350_0 := (HB.out.cell (World.block_lt_of_cell? w _ hx350_0)).trans hx350_0
        have HR350_0 := Aside0.mk hi350_0
        have HC350_0 := Aside0.mk hl350_0
        clear hi350_0 hl350_0
        replace p350 := eq_true p350
        replace q350 := eq_true q350
        go_wp2_with (first | ((with_reducible refine gate_callee (f := 61) rfl ?_); refine gL 21 Try.func61 #[.slice A350_0 (rd_L1 l1_1 x5_1).length c350_0, .int .i64 a0] ?_; (with_reducible refine (gampref05_Permutation.calls k1 _ _ (rd_L1 l1_1 x5_1) a0 true _ ?side1 ?side2 A6.out).mono ?_); (case side1 => exact cl (Kd.C_below HR350_0.out HB.out)); (case side2 => exact HC350_0.out); rintro e w' ⟨rfl, ⟨nd, rfl⟩⟩; refine ⟨_, rfl, ?_⟩) | (go_at_call 57; (with_reducible refine (gampref05_One.calls k1 a0 t352 _ A8.out).mono ?_); rintro e w18 ⟨v353, rfl, ho0, hb⟩; have n0_ := Aside0.mk (Kd.R_lower ho0 (below_size (bl HB))); have n1_ := Aside0.mk (blk_below (g := gb349) (o := .cells #[.int .i64 a1_0, .slice (some ad350) l1_1.length c1_1] 26 (0, 0)) (bk BK349) hb); have n2_ := Aside0.mk (below_step (bl HB) hb); clear BK349; clear HB; have HO354 := n0_; have BK349 := n1_; have HB := n2_; clear n0_ n1_ n2_; (try clear hb); (try clear hb2); (try clear hk); (try clear hi); (try clear ho0); obtain ⟨Ao19, co19, eo19⟩ := Kd.R_slice HO354.out; subst eo19) | (go_at_call 47; (with_reducible refine (gampref05_Same.calls k1 _ _ (rd_L1 l1_1 x5_1) _ _ t352 false _ ?side1 ?side2 ?side3 ?side4 A9.out).mono ?_); (case side1 => exact cl (Kd.C_below HR350_0.out HB.out)); (case side2 => exact HC350_0.out); (case side3 => exact cl ((Kd.R_reads' HO354.out).2.2)); (case side4 => exact (Kd.R_reads' HO354.out).2.1); rintro e w' ⟨rfl, ⟨nd, rfl⟩⟩) | (go_at_call 29; (with_reducible refine (gampref05_Half.calls k1 a0 t356 _ A14.out).mono ?_); rintro e w20 ⟨v357, rfl, ho0, hb⟩; have n0_ := Aside0.mk (Kd.R_elder' (rl HO354) (Kd.R_base ho0) hb); have n1_ := Aside0.mk (Kd.R_lower (Kd.R_new' ho0 (Kd.R_lt (rl HO354))) (below_size (bl HB))); have n2_ := Aside0.mk (blk_below (g := gb349) (o := .cells #[.int .i64 a1_0, .slice (some ad350) l1_1.length c1_1] 26 (0, 0)) (bk BK349) hb); have n3_ := Aside0.mk (below_step (bl HB) hb); clear HO354; clear BK349; clear HB; have HO354 := n0_; have HO358 := n1_; have BK349 := n2_; have HB := n3_; clear n0_ n1_ n2_ n3_; (try clear hb); (try clear hb2); (try clear hk); (try clear hi); (try clear ho0); obtain ⟨Ao21, co21, eo21⟩ := Kd.R_slice HO358.out; subst eo21) | (go_at_call 47; (with_reducible refine (gampref05_Same.calls k1 _ _ (rd_L1 l1_1 x5_1) _ _ t356 true _ ?side1 ?side2 ?side3 ?side4 A15.out).mono ?_); (case side1 => exact cl (Kd.C_below HR350_0.out HB.out)); (case side2 => exact HC350_0.out); (case side3 => exact cl ((Kd.R_reads' HO358.out).2.2)); (case side4 => exact (Kd.R_reads' HO358.out).2.1); rintro e w' ⟨rfl, ⟨nd, rfl⟩⟩))
        go_ret
        exact ⟨by first | rfl | (simp [errW_none, errW_some] <;> rfl) | (simp [*, errW_none, errW_some] <;> rfl), by repeat (first | (with_reducible first | exact HB.out | apply below_alloc | apply pw_below_drewN | apply below_drew1 | refine below_set ?_ GE349.out) | exact HB.out)⟩
       ·replace c16 := Bool.eq_false_iff.mpr c16
        subst c16
        have H1 : (if x5_1 > 0 then (if 0 ≤ (wrap64 (x5_1 - 1)) then (if (wrap64 (x5_1 - 1)) < (l1_1.length : Int) then ((gampref05_wrong.f k1 (rd_L1 l1_1 (wrap64 (x5_1 - 1))) (rd_L1 l1_1 x5_1)).bind fun t361 => (if t361 ≥ 0 then (some false) else (gampref05_Is.l0 k1 a0 (wrap64 (x5_1 + 1)) a1_0 l1_1))) else (none)) else (none)) else (gampref05_Is.l0 k1 a0 (wrap64 (x5_1 + 1)) a1_0 l1_1)) = some r := by rw [if_neg (show ¬ (false = true) by decide)] at H; exact H
        clear H
        have H := H1
        clear H1
        by_cases c22 : x5_1 > 0
        ·rw [if_pos c22] at H
         have c22b0 : decide (0 < x5_1) = true := decide_eq_true c22
         clear c22
         obtain ⟨ji23, hji23⟩ : ∃ j_ : Int, (wrap64 (x5_1 - 1)) = j_ := ⟨_, rfl⟩
         replace H : (if 0 ≤ (ji23) then (if (ji23) < (l1_1.length : Int) then ((gampref05_wrong.f k1 (rd_L1 l1_1 (ji23)) (rd_L1 l1_1 x5_1)).bind fun t361 => (if t361 ≥ 0 then (some false) else (gampref05_Is.l0 k1 a0 (wrap64 (x5_1 + 1)) a1_0 l1_1))) else (none)) else (none)) = some r := by first | (rw [hji23] at H; exact H) | (simp only [hji23] at H ⊢; exact H)
         (try rw [hji23] at A6)
         (try rw [hji23] at A8)
         (try rw [hji23] at A9)
         (try rw [hji23] at A14)
         (try rw [hji23] at A15)
         have hji23w : (IntKind.i64.wrap (x5_1 - 1)) = ji23 := (i64_w _).trans hji23
         by_cases c24 : 0 ≤ (ji23)
         ·rw [if_pos c24] at H
          have c24b0 : decide (0 ≤ (ji23)) = true := decide_eq_true c24
          clear c24
          by_cases c25 : (ji23) < (l1_1.length : Int)
          ·rw [if_pos c25] at H
           have c25b0 : decide ((ji23) < (l1_1.length : Int)) = true := decide_eq_true c25
           clear c25
           replace H := Option.bind_eq_some_iff.mp H
           obtain ⟨t361, A260, H⟩ := H
           replace H : (if t361 ≥ 0 then (some false) else (gampref05_Is.l0 k1 a0 (wrap64 (x5_1 + 1)) a1_0 l1_1)) = some r := H
           have A26 := Aside0.mk A260
           clear A260
           by_cases c27 : t361 ≥ 0
           ·rw [if_pos c27] at H
            have c27b0 : decide (0 ≤ t361) = true := decide_eq_true c27
            clear c27
            obtain rfl := Option.some.inj H
            have hcz28_0 : wr.cell? ⟨gb349, 0, none⟩ = some (.int .i64 a1_0) := (blk_cell BK349.out 0).trans rfl
            have hcz28_1 : wr.cell? ⟨gb349, 1, none⟩ = some (.slice A1_1 l1_1.length c1_1) := (blk_cell BK349.out 1).trans rfl
            have hfz28_0 := blk_frozen BK349.out 0
            have hfz28_1 := blk_frozen BK349.out 1
            have p350 : 0 ≤ (x5_1 : Int) := ofd
            have q350 : x5_1 < (l1_1.length : Int) := ofd
            obtain ⟨ad350, A350_0, c350_0, e350, hx350_0, hl350_0, hi350_0⟩ := at_L1 HR1_1.out x5_1 p350 q350
            cases e350
            replace hx350_0 := (HB.out.cell (World.block_lt_of_cell? w _ hx350_0)).trans hx350_0
            have HR350_0 := Aside0.mk hi350_0
            have HC350_0 := Aside0.mk hl350_0
            clear hi350_0 hl350_0
            replace p350 := eq_true p350
            replace q350 := eq_true q350
            go_wp2_with (first | ((with_reducible refine gate_callee (f := 61) rfl ?_); refine gL 21 Try.func61 #[.slice A350_0 (rd_L1 l1_1 x5_1).length c350_0, .int .i64 a0] ?_; (with_reducible refine (gampref05_Permutation.calls k1 _ _ (rd_L1 l1_1 x5_1) a0 true _ ?side1 ?side2 A6.out).mono ?_); (case side1 => exact cl (Kd.C_below HR350_0.out HB.out)); (case side2 => exact HC350_0.out); rintro e w' ⟨rfl, ⟨nd, rfl⟩⟩; refine ⟨_, rfl, ?_⟩) | (go_at_call 57; (with_reducible refine (gampref05_One.calls k1 a0 t352 _ A8.out).mono ?_); rintro e w29 ⟨v353, rfl, ho0, hb⟩; have n0_ := Aside0.mk (Kd.R_lower ho0 (below_size (bl HB))); have n1_ := Aside0.mk (blk_below (g := gb349) (o := .cells #[.int .i64 a1_0, .slice (some ad350) l1_1.length c1_1] 26 (0, 0)) (bk BK349) hb); have n2_ := Aside0.mk (below_step (bl HB) hb); clear BK349; clear HB; have HO354 := n0_; have BK349 := n1_; have HB := n2_; clear n0_ n1_ n2_; (try clear hb); (try clear hb2); (try clear hk); (try clear hi); (try clear ho0); obtain ⟨Ao30, co30, eo30⟩ := Kd.R_slice HO354.out; subst eo30) | (go_at_call 47; (with_reducible refine (gampref05_Same.calls k1 _ _ (rd_L1 l1_1 x5_1) _ _ t352 false _ ?side1 ?side2 ?side3 ?side4 A9.out).mono ?_); (case side1 => exact cl (Kd.C_below HR350_0.out HB.out)); (case side2 => exact HC350_0.out); (case side3 => exact cl ((Kd.R_reads' HO354.out).2.2)); (case side4 => exact (Kd.R_reads' HO354.out).2.1); rintro e w' ⟨rfl, ⟨nd, rfl⟩⟩) | (go_at_call 29; (with_reducible refine (gampref05_Half.calls k1 a0 t356 _ A14.out).mono ?_); rintro e w31 ⟨v357, rfl, ho0, hb⟩; have n0_ := Aside0.mk (Kd.R_elder' (rl HO354) (Kd.R_base ho0) hb); have n1_ := Aside0.mk (Kd.R_lower (Kd.R_new' ho0 (Kd.R_lt (rl HO354))) (below_size (bl HB))); have n2_ := Aside0.mk (blk_below (g := gb349) (o := .cells #[.int .i64 a1_0, .slice (some ad350) l1_1.length c1_1] 26 (0, 0)) (bk BK349) hb); have n3_ := Aside0.mk (below_step (bl HB) hb); clear HO354; clear BK349; clear HB; have HO354 := n0_; have HO358 := n1_; have BK349 := n2_; have HB := n3_; clear n0_ n1_ n2_ n3_; (try clear hb); (try clear hb2); (try clear hk); (try clear hi); (try clear ho0); obtain ⟨Ao32, co32, eo32⟩ := Kd.R_slice HO358.out; subst eo32) | (go_at_call 47; (with_reducible refine (gampref05_Same.calls k1 _ _ (rd_L1 l1_1 x5_1) _ _ t356 false _ ?side1 ?side2 ?side3 ?side4 A15.out).mono ?_); (case side1 => exact cl (Kd.C_below HR350_0.out HB.out)); (case side2 => exact HC350_0.out); (case side3 => exact cl ((Kd.R_reads' HO358.out).2.2)); (case side4 => exact (Kd.R_reads' HO358.out).2.1); rintro e w' ⟨rfl, ⟨nd, rfl⟩⟩; have hcz33_0 : w31.cell? ⟨gb349, 0, none⟩ = some (.int .i64 a1_0) := (blk_cell BK349.out 0).trans rfl; have hcz33_1 : w31.cell? ⟨gb349, 1, none⟩ = some (.slice (some ad350) l1_1.length c1_1) := (blk_cell BK349.out 1).trans rfl; have hfz33_0 := blk_frozen BK349.out 0; have hfz33_1 := blk_frozen BK349.out 1; have p360 : 0 ≤ ((ji23) : Int) := ofd; have q360 : (ji23) < (l1_1.length : Int) := ofd; obtain ⟨ad360, A360_0, c360_0, e360, hx360_0, hl360_0, hi360_0⟩ := at_L1 HR1_1.out (ji23) p360 q360; obtain rfl : ad350 = ad360 := (by injection e360); replace hx360_0 := (HB.out.cell (World.block_lt_of_cell? w _ hx360_0)).trans hx360_0; have HR360_0 := Aside0.mk hi360_0; have HC360_0 := Aside0.mk hl360_0; clear hi360_0 hl360_0; replace p360 := eq_true p360; replace q360 := eq_true q360) | (go_at_call 62; (with_reducible refine (gampref05_wrong.calls k1 _ _ (rd_L1 l1_1 (ji23)) _ _ (rd_L1 l1_1 x5_1) t361 _ ?side1 ?side2 ?side3 ?side4 A26.out).mono ?_); (case side1 => exact cl (Kd.C_below HR360_0.out (bl HB))); (case side2 => exact HC360_0.out); (case side3 => exact cl (Kd.C_below HR350_0.out (bl HB))); (case side4 => exact HC350_0.out); rintro e w' ⟨rfl, ⟨nd, rfl⟩⟩))
            go_ret
            exact ⟨by first | rfl | (simp [errW_none, errW_some] <;> rfl) | (simp only [← hji23]; first | rfl | (simp [errW_none, errW_some] <;> rfl)) | (simp [*, errW_none, errW_some] <;> rfl), by repeat (first | (with_reducible first | exact HB.out | apply below_alloc | apply pw_below_drewN | apply below_drew1 | refine below_set ?_ GE349.out) | exact HB.out)⟩
           ·rw [if_neg c27] at H
            have c27b0 : decide (0 ≤ t361) = false := decide_eq_false c27
            clear c27
            have H' := Aside0.mk H
            clear H
            have hcz34_0 : wr.cell? ⟨gb349, 0, none⟩ = some (.int .i64 a1_0) := (blk_cell BK349.out 0).trans rfl
            have hcz34_1 : wr.cell? ⟨gb349, 1, none⟩ = some (.slice A1_1 l1_1.length c1_1) := (blk_cell BK349.out 1).trans rfl
            have hfz34_0 := blk_frozen BK349.out 0
            have hfz34_1 := blk_frozen BK349.out 1
            have p350 : 0 ≤ (x5_1 : Int) := ofd
            have q350 : x5_1 < (l1_1.length : Int) := ofd
            obtain ⟨ad350, A350_0, c350_0, e350, hx350_0, hl350_0, hi350_0⟩ := at_L1 HR1_1.out x5_1 p350 q350
            cases e350
            replace hx350_0 := (HB.out.cell (World.block_lt_of_cell? w _ hx350_0)).trans hx350_0
            have HR350_0 := Aside0.mk hi350_0
            have HC350_0 := Aside0.mk hl350_0
            clear hi350_0 hl350_0
            replace p350 := eq_true p350
            replace q350 := eq_true q350
            go_wp2_with (first | ((with_reducible refine gate_callee (f := 61) rfl ?_); refine gL 21 Try.func61 #[.slice A350_0 (rd_L1 l1_1 x5_1).length c350_0, .int .i64 a0] ?_; (with_reducible refine (gampref05_Permutation.calls k1 _ _ (rd_L1 l1_1 x5_1) a0 true _ ?side1 ?side2 A6.out).mono ?_); (case side1 => exact cl (Kd.C_below HR350_0.out HB.out)); (case side2 => exact HC350_0.out); rintro e w' ⟨rfl, ⟨nd, rfl⟩⟩; refine ⟨_, rfl, ?_⟩) | (go_at_call 57; (with_reducible refine (gampref05_One.calls k1 a0 t352 _ A8.out).mono ?_); rintro e w35 ⟨v353, rfl, ho0, hb⟩; have n0_ := Aside0.mk (Kd.R_lower ho0 (below_size (bl HB))); have n1_ := Aside0.mk (blk_below (g := gb349) (o := .cells #[.int .i64 a1_0, .slice (some ad350) l1_1.length c1_1] 26 (0, 0)) (bk BK349) hb); have n2_ := Aside0.mk (below_step (bl HB) hb); clear BK349; clear HB; have HO354 := n0_; have BK349 := n1_; have HB := n2_; clear n0_ n1_ n2_; (try clear hb); (try clear hb2); (try clear hk); (try clear hi); (try clear ho0); obtain ⟨Ao36, co36, eo36⟩ := Kd.R_slice HO354.out; subst eo36) | (go_at_call 47; (with_reducible refine (gampref05_Same.calls k1 _ _ (rd_L1 l1_1 x5_1) _ _ t352 false _ ?side1 ?side2 ?side3 ?side4 A9.out).mono ?_); (case side1 => exact cl (Kd.C_below HR350_0.out HB.out)); (case side2 => exact HC350_0.out); (case side3 => exact cl ((Kd.R_reads' HO354.out).2.2)); (case side4 => exact (Kd.R_reads' HO354.out).2.1); rintro e w' ⟨rfl, ⟨nd, rfl⟩⟩) | (go_at_call 29; (with_reducible refine (gampref05_Half.calls k1 a0 t356 _ A14.out).mono ?_); rintro e w37 ⟨v357, rfl, ho0, hb⟩; have n0_ := Aside0.mk (Kd.R_elder' (rl HO354) (Kd.R_base ho0) hb); have n1_ := Aside0.mk (Kd.R_lower (Kd.R_new' ho0 (Kd.R_lt (rl HO354))) (below_size (bl HB))); have n2_ := Aside0.mk (blk_below (g := gb349) (o := .cells #[.int .i64 a1_0, .slice (some ad350) l1_1.length c1_1] 26 (0, 0)) (bk BK349) hb); have n3_ := Aside0.mk (below_step (bl HB) hb); clear HO354; clear BK349; clear HB; have HO354 := n0_; have HO358 := n1_; have BK349 := n2_; have HB := n3_; clear n0_ n1_ n2_ n3_; (try clear hb); (try clear hb2); (try clear hk); (try clear hi); (try clear ho0); obtain ⟨Ao38, co38, eo38⟩ := Kd.R_slice HO358.out; subst eo38) | (go_at_call 47; (with_reducible refine (gampref05_Same.calls k1 _ _ (rd_L1 l1_1 x5_1) _ _ t356 false _ ?side1 ?side2 ?side3 ?side4 A15.out).mono ?_); (case side1 => exact cl (Kd.C_below HR350_0.out HB.out)); (case side2 => exact HC350_0.out); (case side3 => exact cl ((Kd.R_reads' HO358.out).2.2)); (case side4 => exact (Kd.R_reads' HO358.out).2.1); rintro e w' ⟨rfl, ⟨nd, rfl⟩⟩; have hcz39_0 : w37.cell? ⟨gb349, 0, none⟩ = some (.int .i64 a1_0) := (blk_cell BK349.out 0).trans rfl; have hcz39_1 : w37.cell? ⟨gb349, 1, none⟩ = some (.slice (some ad350) l1_1.length c1_1) := (blk_cell BK349.out 1).trans rfl; have hfz39_0 := blk_frozen BK349.out 0; have hfz39_1 := blk_frozen BK349.out 1; have p360 : 0 ≤ ((ji23) : Int) := ofd; have q360 : (ji23) < (l1_1.length : Int) := ofd; obtain ⟨ad360, A360_0, c360_0, e360, hx360_0, hl360_0, hi360_0⟩ := at_L1 HR1_1.out (ji23) p360 q360; obtain rfl : ad350 = ad360 := (by injection e360); replace hx360_0 := (HB.out.cell (World.block_lt_of_cell? w _ hx360_0)).trans hx360_0; have HR360_0 := Aside0.mk hi360_0; have HC360_0 := Aside0.mk hl360_0; clear hi360_0 hl360_0; replace p360 := eq_true p360; replace q360 := eq_true q360) | (go_at_call 62; (with_reducible refine (gampref05_wrong.calls k1 _ _ (rd_L1 l1_1 (ji23)) _ _ (rd_L1 l1_1 x5_1) t361 _ ?side1 ?side2 ?side3 ?side4 A26.out).mono ?_); (case side1 => exact cl (Kd.C_below HR360_0.out (bl HB))); (case side2 => exact HC360_0.out); (case side3 => exact cl (Kd.C_below HR350_0.out (bl HB))); (case side4 => exact HC350_0.out); rintro e w' ⟨rfl, ⟨nd, rfl⟩⟩))
            go_roundg k1
            case measure => have := HK1.out; omega
            case rel => exact ⟨(wrap64 (x5_1 + 1)), (by first | rfl | (simp; done) | (simp [*]; done)), H', ⟨by have := HK1.out; omega⟩, ⟨bk BK349⟩, ⟨bl HB⟩⟩
          ·rw [if_neg c25] at H
           exact absurd H (by simp)
         ·rw [if_neg c24] at H
          exact absurd H (by simp)
        ·rw [if_neg c22] at H
         have c22b0 : decide (0 < x5_1) = false := decide_eq_false c22
         clear c22
         have H' := Aside0.mk H
         clear H
         have hcz40_0 : wr.cell? ⟨gb349, 0, none⟩ = some (.int .i64 a1_0) := (blk_cell BK349.out 0).trans rfl
         have hcz40_1 : wr.cell? ⟨gb349, 1, none⟩ = some (.slice A1_1 l1_1.length c1_1) := (blk_cell BK349.out 1).trans rfl
         have hfz40_0 := blk_frozen BK349.out 0
         have hfz40_1 := blk_frozen BK349.out 1
         have p350 : 0 ≤ (x5_1 : Int) := ofd
         have q350 : x5_1 < (l1_1.length : Int) := ofd
         obtain ⟨ad350, A350_0, c350_0, e350, hx350_0, hl350_0, hi350_0⟩ := at_L1 HR1_1.out x5_1 p350 q350
         cases e350
         replace hx350_0 := (HB.out.cell (World.block_lt_of_cell? w _ hx350_0)).trans hx350_0
         have HR350_0 := Aside0.mk hi350_0
         have HC350_0 := Aside0.mk hl350_0
         clear hi350_0 hl350_0
         replace p350 := eq_true p350
         replace q350 := eq_true q350
         go_wp2_with (first | ((with_reducible refine gate_callee (f := 61) rfl ?_); refine gL 21 Try.func61 #[.slice A350_0 (rd_L1 l1_1 x5_1).length c350_0, .int .i64 a0] ?_; (with_reducible refine (gampref05_Permutation.calls k1 _ _ (rd_L1 l1_1 x5_1) a0 true _ ?side1 ?side2 A6.out).mono ?_); (case side1 => exact cl (Kd.C_below HR350_0.out HB.out)); (case side2 => exact HC350_0.out); rintro e w' ⟨rfl, ⟨nd, rfl⟩⟩; refine ⟨_, rfl, ?_⟩) | (go_at_call 57; (with_reducible refine (gampref05_One.calls k1 a0 t352 _ A8.out).mono ?_); rintro e w41 ⟨v353, rfl, ho0, hb⟩; have n0_ := Aside0.mk (Kd.R_lower ho0 (below_size (bl HB))); have n1_ := Aside0.mk (blk_below (g := gb349) (o := .cells #[.int .i64 a1_0, .slice (some ad350) l1_1.length c1_1] 26 (0, 0)) (bk BK349) hb); have n2_ := Aside0.mk (below_step (bl HB) hb); clear BK349; clear HB; have HO354 := n0_; have BK349 := n1_; have HB := n2_; clear n0_ n1_ n2_; (try clear hb); (try clear hb2); (try clear hk); (try clear hi); (try clear ho0); obtain ⟨Ao42, co42, eo42⟩ := Kd.R_slice HO354.out; subst eo42) | (go_at_call 47; (with_reducible refine (gampref05_Same.calls k1 _ _ (rd_L1 l1_1 x5_1) _ _ t352 false _ ?side1 ?side2 ?side3 ?side4 A9.out).mono ?_); (case side1 => exact cl (Kd.C_below HR350_0.out HB.out)); (case side2 => exact HC350_0.out); (case side3 => exact cl ((Kd.R_reads' HO354.out).2.2)); (case side4 => exact (Kd.R_reads' HO354.out).2.1); rintro e w' ⟨rfl, ⟨nd, rfl⟩⟩) | (go_at_call 29; (with_reducible refine (gampref05_Half.calls k1 a0 t356 _ A14.out).mono ?_); rintro e w43 ⟨v357, rfl, ho0, hb⟩; have n0_ := Aside0.mk (Kd.R_elder' (rl HO354) (Kd.R_base ho0) hb); have n1_ := Aside0.mk (Kd.R_lower (Kd.R_new' ho0 (Kd.R_lt (rl HO354))) (below_size (bl HB))); have n2_ := Aside0.mk (blk_below (g := gb349) (o := .cells #[.int .i64 a1_0, .slice (some ad350) l1_1.length c1_1] 26 (0, 0)) (bk BK349) hb); have n3_ := Aside0.mk (below_step (bl HB) hb); clear HO354; clear BK349; clear HB; have HO354 := n0_; have HO358 := n1_; have BK349 := n2_; have HB := n3_; clear n0_ n1_ n2_ n3_; (try clear hb); (try clear hb2); (try clear hk); (try clear hi); (try clear ho0); obtain ⟨Ao44, co44, eo44⟩ := Kd.R_slice HO358.out; subst eo44) | (go_at_call 47; (with_reducible refine (gampref05_Same.calls k1 _ _ (rd_L1 l1_1 x5_1) _ _ t356 false _ ?side1 ?side2 ?side3 ?side4 A15.out).mono ?_); (case side1 => exact cl (Kd.C_below HR350_0.out HB.out)); (case side2 => exact HC350_0.out); (case side3 => exact cl ((Kd.R_reads' HO358.out).2.2)); (case side4 => exact (Kd.R_reads' HO358.out).2.1); rintro e w' ⟨rfl, ⟨nd, rfl⟩⟩))
         go_roundg k1
         case measure => have := HK1.out; omega
         case rel => exact ⟨(wrap64 (x5_1 + 1)), (by first | rfl | (simp; done) | (simp [*]; done)), H', ⟨by have := HK1.out; omega⟩, ⟨bk BK349⟩, ⟨bl HB⟩⟩
     ·replace c7 := Bool.eq_false_iff.mpr c7
      subst c7
      have H1 : (some false) = some r := by rw [if_neg (show ¬ (false = true) by decide)] at H; exact H
      clear H
      have H := H1
      clear H1
      obtain rfl := Option.some.inj H
      have hcz45_0 : wr.cell? ⟨gb349, 0, none⟩ = some (.int .i64 a1_0) := (blk_cell BK349.out 0).trans rfl
      have hcz45_1 : wr.cell? ⟨gb349, 1, none⟩ = some (.slice A1_1 l1_1.length c1_1) := (blk_cell BK349.out 1).trans rfl
      have hfz45_0 := blk_frozen BK349.out 0
      have hfz45_1 := blk_frozen BK349.out 1
      have p350 : 0 ≤ (x5_1 : Int) := ofd
      have q350 : x5_1 < (l1_1.length : Int) := ofd
      obtain ⟨ad350, A350_0, c350_0, e350, hx350_0, hl350_0, hi350_0⟩ := at_L1 HR1_1.out x5_1 p350 q350
      cases e350
      replace hx350_0 := (HB.out.cell (World.block_lt_of_cell? w _ hx350_0)).trans hx350_0
      have HR350_0 := Aside0.mk hi350_0
      have HC350_0 := Aside0.mk hl350_0
      clear hi350_0 hl350_0
      replace p350 := eq_true p350
      replace q350 := eq_true q350
      go_wp2_with (first | ((with_reducible refine gate_callee (f := 61) rfl ?_); refine gL 21 Try.func61 #[.slice A350_0 (rd_L1 l1_1 x5_1).length c350_0, .int .i64 a0] ?_; (with_reducible refine (gampref05_Permutation.calls k1 _ _ (rd_L1 l1_1 x5_1) a0 false _ ?side1 ?side2 A6.out).mono ?_); (case side1 => exact cl (Kd.C_below HR350_0.out HB.out)); (case side2 => exact HC350_0.out); rintro e w' ⟨rfl, ⟨nd, rfl⟩⟩; refine ⟨_, rfl, ?_⟩))
      go_ret
      exact ⟨by first | rfl | (simp [errW_none, errW_some] <;> rfl) | (simp [*, errW_none, errW_some] <;> rfl), by repeat (first | (with_reducible first | exact HB.out | apply below_alloc | apply pw_below_drewN | apply below_drew1 | refine below_set ?_ GE349.out) | exact HB.out)⟩
    ·rw [if_neg c5] at H
     exact absurd H (by simp)
   ·rw [if_neg c4] at H
    have c4b0 : decide (x5_1 < (l1_1.length : Int)) = false := decide_eq_false c4
    clear c4
    obtain rfl := Option.some.inj H
    have hcz46_0 : wr.cell? ⟨gb349, 0, none⟩ = some (.int .i64 a1_0) := (blk_cell BK349.out 0).trans rfl
    have hcz46_1 : wr.cell? ⟨gb349, 1, none⟩ = some (.slice A1_1 l1_1.length c1_1) := (blk_cell BK349.out 1).trans rfl
    have hfz46_0 := blk_frozen BK349.out 0
    have hfz46_1 := blk_frozen BK349.out 1
    go_wp2
    go_ret
    exact ⟨by first | rfl | (simp [errW_none, errW_some] <;> rfl) | (simp [*, errW_none, errW_some] <;> rfl), by repeat (first | (with_reducible first | exact HB.out | apply below_alloc | apply pw_below_drewN | apply below_drew1 | refine below_set ?_ GE349.out) | exact HB.out)⟩
end Go.Proofs.Ytdldfdcedjmneaa.Lx

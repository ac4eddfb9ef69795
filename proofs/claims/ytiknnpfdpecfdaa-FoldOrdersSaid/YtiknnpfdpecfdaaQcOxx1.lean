/- The declarations of Oxx1 that the claim Qc needs. -/
import Derived.Test.YtiknnpfdpecfdaaQcTkP
import Derived.Test.YtiknnpfdpecfdaaQcOxx0
namespace Go.Proofs.Ytiknnpfdpecfdaa.Ox
open Go.RowKit Go.Proofs.Ytiknnpfdpecfdaa.Own Go.Proofs.Ytiknnpfdpecfdaa.Gx Go.Proofs.YtiknnpfdpecfdaaW.PrintWords Go.Proofs.YtiknnpfdpecfdaaW.PrintLast Go.Proofs.YtiknnpfdpecfdaaW.PrintMore
attribute [local go_sem] max2_int min2_int max_two min_two max_three min_three max_four min_four
set_option linter.unusedVariables false
set_option linter.unusedSimpArgs false
mutual
def gampref01_Permutation.l0 : Nat → List Int → Int → Int → Option (Bool)
  | 0, _, _, _ => none
  | k + 1, x0, x1, x5 => if x5 < (x0.length : Int) then (if 0 ≤ x5 then ((Gx.gampref01_in.f (rd x0 x5) 0 (wrap64 (x1 - 1))).bind fun t102 => (if t102 = true then (gampref01_Permutation.l1 k x0 x1 x5 0) else (some false))) else (none)) else (some ((x0.length : Int) == x1))
def gampref01_Permutation.l1 : Nat → List Int → Int → Int → Int → Option (Bool)
  | 0, _, _, _, _ => none
  | k + 1, x0, x1, x5, x6 => if x6 < x5 then (if 0 ≤ x6 then (if x6 < (x0.length : Int) then (if 0 ≤ x5 then (if x5 < (x0.length : Int) then (if (rd x0 x6) = (rd x0 x5) then (some false) else (gampref01_Permutation.l1 k x0 x1 x5 (wrap64 (x6 + 1)))) else (none)) else (none)) else (none)) else (none)) else (gampref01_Permutation.l0 k x0 x1 (wrap64 (x5 + 1)))
end
def gampref01_Permutation.f (k : Nat) (l0 : List Int) (a1 : Int) : Option (Bool) := gampref01_Permutation.l0 k l0 a1 0
set_option maxHeartbeats 8000000 in
set_option maxRecDepth 100000 in
theorem gampref01_Permutation.calls (k : Nat) (A0 : Option Addr) (c0 : Nat) (l0 : List Int) (a1 : Int) (r : Bool) (w : World) (hr0 : Kd.C (Kd.int .i64) w A0 l0.length l0) (hc0 : l0.length ≤ c0) (h : gampref01_Permutation.f k l0 a1 = some r) :
  Calls Try.prog 30 #[.slice A0 l0.length c0, .int .i64 a1] w fun e w' => e = .returned (.bool r) ∧ Drawn0 w w' := by
 have HR0 := Aside0.mk hr0
 have HC0 := Aside0.mk hc0
 clear hr0 hc0
 have H : (gampref01_Permutation.l0 k l0 a1 0) = some r := h
 clear h
 have H' := Aside0.mk H
 clear H
 go_enter Try.func30, Try.ntmps30
 go_wp2
 repeat (go_quiet (fail); try go_wp2)
 go_loopg [5] k (fun kq v5 w' => ∃ (x5_1 : Int), v5 = .int .i64 x5_1 ∧ Aside0 (gampref01_Permutation.l0 kq l0 a1 x5_1 = some r) ∧ Aside0 (kq ≤ k) ∧ Drawn0 w w')
 case atStart => exact ⟨(0), (by first | rfl | (simp; done) | (simp [*]; done)), H', ⟨Nat.le_refl _⟩, by repeat (first | exact Drawn0.refl _ | apply Drawn0.step)⟩
 case round =>
  clear H'
  try clear p2
  obtain ⟨x5_1, rfl, HA, HK1, ⟨m1, rfl⟩⟩ := hrel
  cases gk with
  | zero => exact absurd HA.out (by simp [gampref01_Permutation.l0])
  | succ k1 =>
   have H := HA.out
   clear HA
   simp only [gampref01_Permutation.l0] at H
   by_cases c3 : x5_1 < (l0.length : Int)
   ·rw [if_pos c3] at H
    have c3b0 : decide (x5_1 < (l0.length : Int)) = true := decide_eq_true c3
    clear c3
    by_cases c4 : 0 ≤ x5_1
    ·rw [if_pos c4] at H
     have c4b0 : decide (0 ≤ x5_1) = true := decide_eq_true c4
     clear c4
     replace H := Option.bind_eq_some_iff.mp H
     obtain ⟨t102, A50, H⟩ := H
     replace H : (if t102 = true then (gampref01_Permutation.l1 k1 l0 a1 x5_1 0) else (some false)) = some r := H
     have A5 := Aside0.mk A50
     clear A50
     by_cases c6 : t102 = true
     ·subst c6
      have H1 : (gampref01_Permutation.l1 k1 l0 a1 x5_1 0) = some r := by rw [if_pos rfl] at H; exact H
      clear H
      have H := H1
      clear H1
      have H' := Aside0.mk H
      clear H
      have p101 : 0 ≤ (x5_1 : Int) := ofd
      have q101 : x5_1 < (l0.length : Int) := ofd
      obtain ⟨ad101, e101, hx101_0⟩ := Kd.at_int HR0.out x5_1 p101 q101
      cases e101
      replace p101 := eq_true p101
      replace q101 := eq_true q101
      go_wp2_with (first | (go_at_call 57; (with_reducible refine (Gx.gampref01_in.calls (rd l0 x5_1) 0 (wrap64 (a1 - 1)) true _ A5.out).mono ?_); rintro e w' ⟨rfl, ⟨nd, rfl⟩⟩; (try first | exact ⟨rfl, _, World.drewN_drewN _ _ _⟩ | exact ⟨rfl, _, Eq.trans (World.drewN_drewN _ _ _) (congrArg (World.drewN _) (Nat.add_assoc _ _ _))⟩)))
      repeat (go_quiet (first | (go_at_call 57; (with_reducible refine (Gx.gampref01_in.calls (rd l0 x5_1) 0 (wrap64 (a1 - 1)) true _ A5.out).mono ?_); rintro e w' ⟨rfl, ⟨nd, rfl⟩⟩; (try first | exact ⟨rfl, _, World.drewN_drewN _ _ _⟩ | exact ⟨rfl, _, Eq.trans (World.drewN_drewN _ _ _) (congrArg (World.drewN _) (Nat.add_assoc _ _ _))⟩))); try go_wp2_with (first | (go_at_call 57; (with_reducible refine (Gx.gampref01_in.calls (rd l0 x5_1) 0 (wrap64 (a1 - 1)) true _ A5.out).mono ?_); rintro e w' ⟨rfl, ⟨nd, rfl⟩⟩; (try first | exact ⟨rfl, _, World.drewN_drewN _ _ _⟩ | exact ⟨rfl, _, Eq.trans (World.drewN_drewN _ _ _) (congrArg (World.drewN _) (Nat.add_assoc _ _ _))⟩))))
      go_loopg [6] k1 (fun kq v6 w' => ∃ (x6_2 : Int), v6 = .int .i64 x6_2 ∧ Aside0 (gampref01_Permutation.l1 kq l0 a1 x5_1 x6_2 = some r) ∧ Aside0 (kq ≤ k1) ∧ Drawn0 w w')
      case atStart => exact ⟨(0), (by first | rfl | (simp; done) | (simp [*]; done)), H', ⟨Nat.le_refl _⟩, by repeat (first | exact Drawn0.refl _ | apply Drawn0.step)⟩
      case round =>
       clear H'
       try clear p1
       try clear q1
       try clear hx1
       try clear p2
       try clear c3
       try clear c3b0
       try clear c4
       try clear c4b0
       try clear c6
       try clear p6
       try clear hx101_0
       try clear p101
       try clear p2
       try clear q101
       obtain ⟨x6_2, rfl, HA, HK2, ⟨m2, rfl⟩⟩ := hrel
       cases gk with
       | zero => exact absurd HA.out (by simp [gampref01_Permutation.l1])
       | succ k2 =>
        have H := HA.out
        clear HA
        simp only [gampref01_Permutation.l1] at H
        by_cases c7 : x6_2 < x5_1
        ·rw [if_pos c7] at H
         have c7b0 : decide (x6_2 < x5_1) = true := decide_eq_true c7
         clear c7
         by_cases c8 : 0 ≤ x6_2
         ·rw [if_pos c8] at H
          have c8b0 : decide (0 ≤ x6_2) = true := decide_eq_true c8
          clear c8
          by_cases c9 : x6_2 < (l0.length : Int)
          ·rw [if_pos c9] at H
           have c9b0 : decide (x6_2 < (l0.length : Int)) = true := decide_eq_true c9
           clear c9
           by_cases c10 : 0 ≤ x5_1
           ·rw [if_pos c10] at H
            have c10b0 : decide (0 ≤ x5_1) = true := decide_eq_true c10
            clear c10
            by_cases c11 : x5_1 < (l0.length : Int)
            ·rw [if_pos c11] at H
             have c11b0 : decide (x5_1 < (l0.length : Int)) = true := decide_eq_true c11
             clear c11
             by_cases c12 : (rd l0 x6_2) = (rd l0 x5_1)
             ·rw [if_pos c12] at H
              have c12b0 : ((rd l0 x6_2) == (rd l0 x5_1)) = true := beq_iff_eq.mpr c12
              have c12b1 : ((rd l0 x6_2) != (rd l0 x5_1)) = false := bne_eq_false_iff_eq.mpr c12
              clear c12
              obtain rfl := Option.some.inj H
              have p103 : 0 ≤ (x6_2 : Int) := ofd
              have q103 : x6_2 < (l0.length : Int) := ofd
              obtain ⟨ad103, e103, hx103_0⟩ := Kd.at_int HR0.out x6_2 p103 q103
              obtain rfl : ad101 = ad103 := (by injection e103)
              replace p103 := eq_true p103
              replace q103 := eq_true q103
              have p104 : 0 ≤ (x5_1 : Int) := ofd
              have q104 : x5_1 < (l0.length : Int) := ofd
              obtain ⟨ad104, e104, hx104_0⟩ := Kd.at_int HR0.out x5_1 p104 q104
              obtain rfl : ad101 = ad104 := (by injection e104)
              replace p104 := eq_true p104
              replace q104 := eq_true q104
              go_wp2
              repeat (go_quiet (fail); try go_wp2)
              go_ret
              exact ⟨by first | rfl | (simp; done) | (simp [*]; done), by repeat (first | exact Drawn0.refl _ | apply Drawn0.step)⟩
             ·rw [if_neg c12] at H
              have c12b0 : ((rd l0 x6_2) == (rd l0 x5_1)) = false := beq_eq_false_iff_ne.mpr c12
              have c12b1 : ((rd l0 x6_2) != (rd l0 x5_1)) = true := bne_iff_ne.mpr c12
              have H' := Aside0.mk H
              clear H
              have p103 : 0 ≤ (x6_2 : Int) := ofd
              have q103 : x6_2 < (l0.length : Int) := ofd
              obtain ⟨ad103, e103, hx103_0⟩ := Kd.at_int HR0.out x6_2 p103 q103
              obtain rfl : ad101 = ad103 := (by injection e103)
              replace p103 := eq_true p103
              replace q103 := eq_true q103
              have p104 : 0 ≤ (x5_1 : Int) := ofd
              have q104 : x5_1 < (l0.length : Int) := ofd
              obtain ⟨ad104, e104, hx104_0⟩ := Kd.at_int HR0.out x5_1 p104 q104
              obtain rfl : ad101 = ad104 := (by injection e104)
              replace p104 := eq_true p104
              replace q104 := eq_true q104
              go_wp2
              repeat (go_quiet (fail); try go_wp2)
              go_roundg k2
              case measure => have := HK1.out; have := HK2.out; omega
              case rel => exact ⟨(wrap64 (x6_2 + 1)), (by first | rfl | (simp; done) | (simp [*]; done)), H', ⟨by have := HK1.out; have := HK2.out; omega⟩, by repeat (first | exact Drawn0.refl _ | apply Drawn0.step)⟩
            ·rw [if_neg c11] at H
             exact absurd H (by simp)
           ·rw [if_neg c10] at H
            exact absurd H (by simp)
          ·rw [if_neg c9] at H
           exact absurd H (by simp)
         ·rw [if_neg c8] at H
          exact absurd H (by simp)
        ·rw [if_neg c7] at H
         have c7b0 : decide (x6_2 < x5_1) = false := decide_eq_false c7
         clear c7
         have H' := Aside0.mk H
         clear H
         go_wp2
         repeat (go_quiet (fail); try go_wp2)
         go_roundg k2
         case measure => have := HK1.out; have := HK2.out; omega
         case rel => exact ⟨(wrap64 (x5_1 + 1)), (by first | rfl | (simp; done) | (simp [*]; done)), H', ⟨by have := HK1.out; have := HK2.out; omega⟩, by repeat (first | exact Drawn0.refl _ | apply Drawn0.step)⟩
     ·replace c6 := Bool.eq_false_iff.mpr c6
      subst c6
      have H1 : (some false) = some r := by rw [if_neg (show ¬ (false = true) by decide)] at H; exact H
      clear H
      have H := H1
      clear H1
      obtain rfl := Option.some.inj H
      have p101 : 0 ≤ (x5_1 : Int) := ofd
      have q101 : x5_1 < (l0.length : Int) := ofd
      obtain ⟨ad101, e101, hx101_0⟩ := Kd.at_int HR0.out x5_1 p101 q101
      cases e101
      replace p101 := eq_true p101
      replace q101 := eq_true q101
      go_wp2_with (first | (go_at_call 57; (with_reducible refine (Gx.gampref01_in.calls (rd l0 x5_1) 0 (wrap64 (a1 - 1)) false _ A5.out).mono ?_); rintro e w' ⟨rfl, ⟨nd, rfl⟩⟩; (try first | exact ⟨rfl, _, World.drewN_drewN _ _ _⟩ | exact ⟨rfl, _, Eq.trans (World.drewN_drewN _ _ _) (congrArg (World.drewN _) (Nat.add_assoc _ _ _))⟩)))
      repeat (go_quiet (first | (go_at_call 57; (with_reducible refine (Gx.gampref01_in.calls (rd l0 x5_1) 0 (wrap64 (a1 - 1)) false _ A5.out).mono ?_); rintro e w' ⟨rfl, ⟨nd, rfl⟩⟩; (try first | exact ⟨rfl, _, World.drewN_drewN _ _ _⟩ | exact ⟨rfl, _, Eq.trans (World.drewN_drewN _ _ _) (congrArg (World.drewN _) (Nat.add_assoc _ _ _))⟩))); try go_wp2_with (first | (go_at_call 57; (with_reducible refine (Gx.gampref01_in.calls (rd l0 x5_1) 0 (wrap64 (a1 - 1)) false _ A5.out).mono ?_); rintro e w' ⟨rfl, ⟨nd, rfl⟩⟩; (try first | exact ⟨rfl, _, World.drewN_drewN _ _ _⟩ | exact ⟨rfl, _, Eq.trans (World.drewN_drewN _ _ _) (congrArg (World.drewN _) (Nat.add_assoc _ _ _))⟩))))
      go_ret
      exact ⟨by first | rfl | (simp; done) | (simp [*]; done), by repeat (first | exact Drawn0.refl _ | apply Drawn0.step)⟩
    ·rw [if_neg c4] at H
     exact absurd H (by simp)
   ·rw [if_neg c3] at H
    have c3b0 : decide (x5_1 < (l0.length : Int)) = false := decide_eq_false c3
    clear c3
    obtain rfl := Option.some.inj H
    go_wp2
    repeat (go_quiet (fail); try go_wp2)
    go_ret
    exact ⟨by first | rfl | (simp; done) | (simp [*]; done), by repeat (first | exact Drawn0.refl _ | apply Drawn0.step)⟩
def gampref01_Letters.l0 : Nat → List Int → List (Gx.S88) → ByteArray → Int → Option (ByteArray)
  | 0, _, _, _, _ => none
  | k + 1, x7, x8, x9, x10 => if x10 < (x8.length : Int) then (if 0 ≤ x10 then (if 0 ≤ ((Gx.rd_T88 x8 x10).f2) then (if ((Gx.rd_T88 x8 x10).f2) < (x7.length : Int) then (if 0 ≤ ((Gx.rd_T88 x8 x10).f1) then (if ((Gx.rd_T88 x8 x10).f1) < (x7.length : Int) then (if (((Int.tmod ((Gx.rd_T88 x8 x10).f1) 2) == 0) == (decide ((rd x7 ((Gx.rd_T88 x8 x10).f2)) > (rd x7 ((Gx.rd_T88 x8 x10).f1))))) = true then (if x9.size + 1 ≤ 9223372036854775807 then (gampref01_Letters.l0 k x7 x8 (x9 ++ (⟨#[86]⟩ : ByteArray)) (wrap64 (x10 + 1))) else (none)) else (if x9.size + 1 ≤ 9223372036854775807 then (gampref01_Letters.l0 k x7 x8 (x9 ++ (⟨#[77]⟩ : ByteArray)) (wrap64 (x10 + 1))) else (none))) else (none)) else (none)) else (none)) else (none)) else (none)) else (some x9)
def gampref01_Letters.f (k : Nat) (l0 : List Int) (l1 : List Int) (a2 : Bool) : Option (ByteArray) := (Gx.gampref01_layers.f k l1).bind fun t105 => ((Gx.gampref01_creases.f k l0 a2).bind fun t108 => (gampref01_Letters.l0 k t105 t108 (⟨#[]⟩ : ByteArray) 0))
set_option maxHeartbeats 8000000 in
set_option maxRecDepth 100000 in
theorem gampref01_Letters.calls (k : Nat) (A0 : Option Addr) (c0 : Nat) (l0 : List Int) (A1 : Option Addr) (c1 : Nat) (l1 : List Int) (a2 : Bool) (r : ByteArray) (w : World) (hr0 : Kd.C (Kd.int .i64) w A0 l0.length l0) (hc0 : l0.length ≤ c0) (hr1 : Kd.C (Kd.int .i64) w A1 l1.length l1) (hc1 : l1.length ≤ c1) (h : gampref01_Letters.f k l0 l1 a2 = some r) :
  Calls Try.prog 35 #[.slice A0 l0.length c0, .slice A1 l1.length c1, .bool a2] w fun e w' => e = .returned (.string r) ∧ Below w.heap.size w w' := by
 have HR0 := Aside0.mk hr0
 have HC0 := Aside0.mk hc0
 clear hr0 hc0
 have HR1 := Aside0.mk hr1
 have HC1 := Aside0.mk hc1
 clear hr1 hc1
 have HB := Aside0.mk (Below.refl w.heap.size w)
 have H : ((Gx.gampref01_layers.f k l1).bind fun t105 => ((Gx.gampref01_creases.f k l0 a2).bind fun t108 => (gampref01_Letters.l0 k t105 t108 (⟨#[]⟩ : ByteArray) 0))) = some r := h
 clear h
 replace H := Option.bind_eq_some_iff.mp H
 obtain ⟨t105, A40, H⟩ := H
 replace H : ((Gx.gampref01_creases.f k l0 a2).bind fun t108 => (gampref01_Letters.l0 k t105 t108 (⟨#[]⟩ : ByteArray) 0)) = some r := H
 have A4 := Aside0.mk A40
 clear A40
 replace H := Option.bind_eq_some_iff.mp H
 obtain ⟨t108, A50, H⟩ := H
 replace H : (gampref01_Letters.l0 k t105 t108 (⟨#[]⟩ : ByteArray) 0) = some r := H
 have A5 := Aside0.mk A50
 clear A50
 have H' := Aside0.mk H
 clear H
 go_enter Try.func35, Try.ntmps35
 go_wp2_with (first | (go_at_call 60; (with_reducible refine (Gx.gampref01_layers.calls k _ _ l1 t105 _ ?side1 ?side2 A4.out).mono ?_); (case side1 => exact cl (HR1.out)); (case side2 => exact HC1.out); rintro e w6 ⟨v106, rfl, ho0, hb⟩; have n0_ := Aside0.mk (Kd.R_lower ho0 (below_size (bl HB))); have n1_ := Aside0.mk (below_step (bl HB) hb); clear HB; have HO107 := n0_; have HB := n1_; clear n0_ n1_; (try clear hb); (try clear hb2); (try clear hk); (try clear hi); (try clear ho0)) | (go_at_call 61; (with_reducible refine (Gx.gampref01_creases.calls k _ _ l0 a2 t108 _ ?side1 ?side2 A5.out).mono ?_); (case side1 => exact cl (Kd.C_below HR0.out HB.out)); (case side2 => exact HC0.out); rintro e w7 ⟨v109, rfl, ho0, hb⟩; have n0_ := Aside0.mk (Kd.R_below (rl HO107) hb); have n1_ := Aside0.mk (Kd.R_lower ho0 (below_size (bl HB))); have n2_ := Aside0.mk (below_step (bl HB) hb); clear HO107; clear HB; have HO107 := n0_; have HO110 := n1_; have HB := n2_; clear n0_ n1_ n2_; (try clear hb); (try clear hb2); (try clear hk); (try clear hi); (try clear ho0)))
 repeat (go_quiet (first | (go_at_call 60; (with_reducible refine (Gx.gampref01_layers.calls k _ _ l1 t105 _ ?side1 ?side2 A4.out).mono ?_); (case side1 => exact cl (HR1.out)); (case side2 => exact HC1.out); rintro e w6 ⟨v106, rfl, ho0, hb⟩; have n0_ := Aside0.mk (Kd.R_lower ho0 (below_size (bl HB))); have n1_ := Aside0.mk (below_step (bl HB) hb); clear HB; have HO107 := n0_; have HB := n1_; clear n0_ n1_; (try clear hb); (try clear hb2); (try clear hk); (try clear hi); (try clear ho0)) | (go_at_call 61; (with_reducible refine (Gx.gampref01_creases.calls k _ _ l0 a2 t108 _ ?side1 ?side2 A5.out).mono ?_); (case side1 => exact cl (Kd.C_below HR0.out HB.out)); (case side2 => exact HC0.out); rintro e w7 ⟨v109, rfl, ho0, hb⟩; have n0_ := Aside0.mk (Kd.R_below (rl HO107) hb); have n1_ := Aside0.mk (Kd.R_lower ho0 (below_size (bl HB))); have n2_ := Aside0.mk (below_step (bl HB) hb); clear HO107; clear HB; have HO107 := n0_; have HO110 := n1_; have HB := n2_; clear n0_ n1_ n2_; (try clear hb); (try clear hb2); (try clear hk); (try clear hi); (try clear ho0))); try go_wp2_with (first | (go_at_call 60; (with_reducible refine (Gx.gampref01_layers.calls k _ _ l1 t105 _ ?side1 ?side2 A4.out).mono ?_); (case side1 => exact cl (HR1.out)); (case side2 => exact HC1.out); rintro e w6 ⟨v106, rfl, ho0, hb⟩; have n0_ := Aside0.mk (Kd.R_lower ho0 (below_size (bl HB))); have n1_ := Aside0.mk (below_step (bl HB) hb); clear HB; have HO107 := n0_; have HB := n1_; clear n0_ n1_; (try clear hb); (try clear hb2); (try clear hk); (try clear hi); (try clear ho0)) | (go_at_call 61; (with_reducible refine (Gx.gampref01_creases.calls k _ _ l0 a2 t108 _ ?side1 ?side2 A5.out).mono ?_); (case side1 => exact cl (Kd.C_below HR0.out HB.out)); (case side2 => exact HC0.out); rintro e w7 ⟨v109, rfl, ho0, hb⟩; have n0_ := Aside0.mk (Kd.R_below (rl HO107) hb); have n1_ := Aside0.mk (Kd.R_lower ho0 (below_size (bl HB))); have n2_ := Aside0.mk (below_step (bl HB) hb); clear HO107; clear HB; have HO107 := n0_; have HO110 := n1_; have HB := n2_; clear n0_ n1_ n2_; (try clear hb); (try clear hb2); (try clear hk); (try clear hi); (try clear ho0))))
 go_loopg [9, 10] k (fun kq v9 v10 w' => ∃ (x9_1 : ByteArray) (x10_1 : Int), v9 = .string x9_1 ∧ v10 = .int .i64 x10_1 ∧ Aside0 (gampref01_Letters.l0 kq t105 t108 x9_1 x10_1 = some r) ∧ Aside0 (kq ≤ k) ∧ Aside0 (Kd.R (Kd.int .i64) 3 w' w.heap.size (fun _ => True) v106 t105) ∧ Aside0 (Kd.R Gx.k88 88 w' w.heap.size (fun _ => True) v109 t108) ∧ Aside0 (Below w.heap.size w w'))
 case atStart => exact ⟨((⟨#[]⟩ : ByteArray)), (0), (by first | rfl | (simp; done) | (simp [*]; done)), (by first | rfl | (simp; done) | (simp [*]; done)), H', ⟨Nat.le_refl _⟩, ⟨rl HO107⟩, ⟨rl HO110⟩, ⟨bl HB⟩⟩
 case round =>
  clear H'
  try clear c1
  try clear p2
  try clear c3
  obtain ⟨x9_1, x10_1, rfl, rfl, HA, HK1, HO_7, HO_8, HB⟩ := hrel
  cases gk with
  | zero => exact absurd HA.out (by simp [gampref01_Letters.l0])
  | succ k1 =>
   have H := HA.out
   clear HA
   simp only [gampref01_Letters.l0] at H
   by_cases c8 : x10_1 < (t108.length : Int)
   ·rw [if_pos c8] at H
    have c8b0 : decide (x10_1 < (t108.length : Int)) = true := decide_eq_true c8
    clear c8
    by_cases c9 : 0 ≤ x10_1
    ·rw [if_pos c9] at H
     have c9b0 : decide (0 ≤ x10_1) = true := decide_eq_true c9
     clear c9
     by_cases c10 : 0 ≤ ((Gx.rd_T88 t108 x10_1).f2)
     ·rw [if_pos c10] at H
      have c10b0 : decide (0 ≤ ((Gx.rd_T88 t108 x10_1).f2)) = true := decide_eq_true c10
      clear c10
      by_cases c11 : ((Gx.rd_T88 t108 x10_1).f2) < (t105.length : Int)
      ·rw [if_pos c11] at H
       have c11b0 : decide (((Gx.rd_T88 t108 x10_1).f2) < (t105.length : Int)) = true := decide_eq_true c11
       clear c11
       by_cases c12 : 0 ≤ ((Gx.rd_T88 t108 x10_1).f1)
       ·rw [if_pos c12] at H
        have c12b0 : decide (0 ≤ ((Gx.rd_T88 t108 x10_1).f1)) = true := decide_eq_true c12
        clear c12
        by_cases c13 : ((Gx.rd_T88 t108 x10_1).f1) < (t105.length : Int)
        ·rw [if_pos c13] at H
         have c13b0 : decide (((Gx.rd_T88 t108 x10_1).f1) < (t105.length : Int)) = true := decide_eq_true c13
         clear c13
         by_cases c14 : (((Int.tmod ((Gx.rd_T88 t108 x10_1).f1) 2) == 0) == (decide ((rd t105 ((Gx.rd_T88 t108 x10_1).f2)) > (rd t105 ((Gx.rd_T88 t108 x10_1).f1))))) = true
         ·rw [if_pos c14] at H
          have c14b0 : (((Int.tmod ((Gx.rd_T88 t108 x10_1).f1) 2) == 0) == (decide ((rd t105 ((Gx.rd_T88 t108 x10_1).f2)) > (rd t105 ((Gx.rd_T88 t108 x10_1).f1))))) = true := c14
          (try (have c14b1 : decide (((Int.tmod ((Gx.rd_T88 t108 x10_1).f1) 2) == 0) = (decide ((rd t105 ((Gx.rd_T88 t108 x10_1).f2)) > (rd t105 ((Gx.rd_T88 t108 x10_1).f1))))) = true := by simpa using c14))
          (try (have c14b2 : (((Int.tmod ((Gx.rd_T88 t108 x10_1).f1) 2) == 0) == (decide ((rd t105 ((Gx.rd_T88 t108 x10_1).f2)) > (rd t105 ((Gx.rd_T88 t108 x10_1).f1))))) = true := by simpa using c14))
          clear c14
          by_cases c15 : x9_1.size + 1 ≤ 9223372036854775807
          ·rw [if_pos c15] at H
           have c15b0 := eq_true c15
           have c15b1 : decide (x9_1.size + 1 ≤ 9223372036854775807) = true := decide_eq_true c15
           try have c15b2 : (9223372036854775807 < x9_1.size + 1) = False := eq_false (Nat.not_lt.2 c15)
           have H' := Aside0.mk H
           clear H
           obtain ⟨Ao16, co16, eo16⟩ := Kd.R_slice HO_8.out
           subst eo16
           have p111 : 0 ≤ (x10_1 : Int) := ofd
           have q111 : x10_1 < (t108.length : Int) := ofd
           obtain ⟨ad111, e111, hx111_0, hx111_1, hx111_2, hx111_3⟩ := Gx.at_T88 (Kd.R_reads' HO_8.out).2.2 x10_1 p111 q111
           cases e111
           replace p111 := eq_true p111
           replace q111 := eq_true q111
           have p112 : 0 ≤ (x10_1 : Int) := ofd
           have q112 : x10_1 < (t108.length : Int) := ofd
           obtain ⟨ad112, e112, hx112_0, hx112_1, hx112_2, hx112_3⟩ := Gx.at_T88 (Kd.R_reads' HO_8.out).2.2 x10_1 p112 q112
           obtain rfl : ad111 = ad112 := (by injection e112)
           replace p112 := eq_true p112
           replace q112 := eq_true q112
           obtain ⟨Ao17, co17, eo17⟩ := Kd.R_slice HO_7.out
           subst eo17
           have p113 : 0 ≤ (((Gx.rd_T88 t108 x10_1).f2) : Int) := ofd
           have q113 : ((Gx.rd_T88 t108 x10_1).f2) < (t105.length : Int) := ofd
           obtain ⟨ad113, e113, hx113_0⟩ := Kd.at_int (Kd.R_reads' HO_7.out).2.2 ((Gx.rd_T88 t108 x10_1).f2) p113 q113
           cases e113
           replace p113 := eq_true p113
           replace q113 := eq_true q113
           have p114 : 0 ≤ (x10_1 : Int) := ofd
           have q114 : x10_1 < (t108.length : Int) := ofd
           obtain ⟨ad114, e114, hx114_0, hx114_1, hx114_2, hx114_3⟩ := Gx.at_T88 (Kd.R_reads' HO_8.out).2.2 x10_1 p114 q114
           obtain rfl : ad111 = ad114 := (by injection e114)
           replace p114 := eq_true p114
           replace q114 := eq_true q114
           have p115 : 0 ≤ (((Gx.rd_T88 t108 x10_1).f1) : Int) := ofd
           have q115 : ((Gx.rd_T88 t108 x10_1).f1) < (t105.length : Int) := ofd
           obtain ⟨ad115, e115, hx115_0⟩ := Kd.at_int (Kd.R_reads' HO_7.out).2.2 ((Gx.rd_T88 t108 x10_1).f1) p115 q115
           obtain rfl : ad113 = ad115 := (by injection e115)
           replace p115 := eq_true p115
           replace q115 := eq_true q115
           go_wp2
           repeat (go_quiet (fail); try go_wp2)
           go_roundg k1
           case measure => have := HK1.out; omega
           case rel => exact ⟨(x9_1 ++ (⟨#[86]⟩ : ByteArray)), (wrap64 (x10_1 + 1)), (by first | rfl | (simp; done) | (simp [*]; done)), (by first | rfl | (simp; done) | (simp [*]; done)), H', ⟨by have := HK1.out; omega⟩, ⟨rl HO_7⟩, ⟨rl HO_8⟩, ⟨bl HB⟩⟩
          ·rw [if_neg c15] at H
           exact absurd H (by simp)
         ·rw [if_neg c14] at H
          have c14b0 : (((Int.tmod ((Gx.rd_T88 t108 x10_1).f1) 2) == 0) == (decide ((rd t105 ((Gx.rd_T88 t108 x10_1).f2)) > (rd t105 ((Gx.rd_T88 t108 x10_1).f1))))) = false := by simpa using c14
          (try (have c14b1 : decide (((Int.tmod ((Gx.rd_T88 t108 x10_1).f1) 2) == 0) = (decide ((rd t105 ((Gx.rd_T88 t108 x10_1).f2)) > (rd t105 ((Gx.rd_T88 t108 x10_1).f1))))) = false := by simpa using c14))
          (try (have c14b2 : (((Int.tmod ((Gx.rd_T88 t108 x10_1).f1) 2) == 0) == (decide ((rd t105 ((Gx.rd_T88 t108 x10_1).f2)) > (rd t105 ((Gx.rd_T88 t108 x10_1).f1))))) = false := by simpa using c14))
          (try (have c14b3 : ¬ (((Int.tmod ((Gx.rd_T88 t108 x10_1).f1) 2) == 0) = (decide ((rd t105 ((Gx.rd_T88 t108 x10_1).f2)) > (rd t105 ((Gx.rd_T88 t108 x10_1).f1))))) := by simpa using c14))
          clear c14
          by_cases c18 : x9_1.size + 1 ≤ 9223372036854775807
          ·rw [if_pos c18] at H
           have c18b0 := eq_true c18
           have c18b1 : decide (x9_1.size + 1 ≤ 9223372036854775807) = true := decide_eq_true c18
           try have c18b2 : (9223372036854775807 < x9_1.size + 1) = False := eq_false (Nat.not_lt.2 c18)
           have H' := Aside0.mk H
           clear H
           obtain ⟨Ao19, co19, eo19⟩ := Kd.R_slice HO_8.out
           subst eo19
           have p111 : 0 ≤ (x10_1 : Int) := ofd
           have q111 : x10_1 < (t108.length : Int) := ofd
           obtain ⟨ad111, e111, hx111_0, hx111_1, hx111_2, hx111_3⟩ := Gx.at_T88 (Kd.R_reads' HO_8.out).2.2 x10_1 p111 q111
           cases e111
           replace p111 := eq_true p111
           replace q111 := eq_true q111
           have p112 : 0 ≤ (x10_1 : Int) := ofd
           have q112 : x10_1 < (t108.length : Int) := ofd
           obtain ⟨ad112, e112, hx112_0, hx112_1, hx112_2, hx112_3⟩ := Gx.at_T88 (Kd.R_reads' HO_8.out).2.2 x10_1 p112 q112
           obtain rfl : ad111 = ad112 := (by injection e112)
           replace p112 := eq_true p112
           replace q112 := eq_true q112
           obtain ⟨Ao20, co20, eo20⟩ := Kd.R_slice HO_7.out
           subst eo20
           have p113 : 0 ≤ (((Gx.rd_T88 t108 x10_1).f2) : Int) := ofd
           have q113 : ((Gx.rd_T88 t108 x10_1).f2) < (t105.length : Int) := ofd
           obtain ⟨ad113, e113, hx113_0⟩ := Kd.at_int (Kd.R_reads' HO_7.out).2.2 ((Gx.rd_T88 t108 x10_1).f2) p113 q113
           cases e113
           replace p113 := eq_true p113
           replace q113 := eq_true q113
           have p114 : 0 ≤ (x10_1 : Int) := ofd
           have q114 : x10_1 < (t108.length : Int) := ofd
           obtain ⟨ad114, e114, hx114_0, hx114_1, hx114_2, hx114_3⟩ := Gx.at_T88 (Kd.R_reads' HO_8.out).2.2 x10_1 p114 q114
           obtain rfl : ad111 = ad114 := (by injection e114)
           replace p114 := eq_true p114
           replace q114 := eq_true q114
           have p115 : 0 ≤ (((Gx.rd_T88 t108 x10_1).f1) : Int) := ofd
           have q115 : ((Gx.rd_T88 t108 x10_1).f1) < (t105.length : Int) := ofd
           obtain ⟨ad115, e115, hx115_0⟩ := Kd.at_int (Kd.R_reads' HO_7.out).2.2 ((Gx.rd_T88 t108 x10_1).f1) p115 q115
           obtain rfl : ad113 = ad115 := (by injection e115)
           replace p115 := eq_true p115
           replace q115 := eq_true q115
           go_wp2
           repeat (go_quiet (fail); try go_wp2)
           go_roundg k1
           case measure => have := HK1.out; omega
           case rel => exact ⟨(x9_1 ++ (⟨#[77]⟩ : ByteArray)), (wrap64 (x10_1 + 1)), (by first | rfl | (simp; done) | (simp [*]; done)), (by first | rfl | (simp; done) | (simp [*]; done)), H', ⟨by have := HK1.out; omega⟩, ⟨rl HO_7⟩, ⟨rl HO_8⟩, ⟨bl HB⟩⟩
          ·rw [if_neg c18] at H
           exact absurd H (by simp)
        ·rw [if_neg c13] at H
         exact absurd H (by simp)
       ·rw [if_neg c12] at H
        exact absurd H (by simp)
      ·rw [if_neg c11] at H
       exact absurd H (by simp)
     ·rw [if_neg c10] at H
      exact absurd H (by simp)
    ·rw [if_neg c9] at H
     exact absurd H (by simp)
   ·rw [if_neg c8] at H
    have c8b0 : decide (x10_1 < (t108.length : Int)) = false := decide_eq_false c8
    clear c8
    obtain rfl := Option.some.inj H
    obtain ⟨Ao21, co21, eo21⟩ := Kd.R_slice HO_8.out
    subst eo21
    go_wp2
    repeat (go_quiet (fail); try go_wp2)
    go_ret
    exact ⟨by first | rfl | (simp [errW_none, errW_some] <;> rfl) | (simp [*, errW_none, errW_some] <;> rfl), by repeat (first | (with_reducible first | exact HB.out | apply below_alloc | apply pw_below_drewN | apply below_drew1) | exact HB.out)⟩
end Go.Proofs.Ytiknnpfdpecfdaa.Ox

/- The declarations of Gxx3 that the claim Qd needs. -/
import Derived.Test.YtiknnpfdpecfdaaQdTkP
import Derived.Test.YtiknnpfdpecfdaaQdGxx0
import Derived.Test.YtiknnpfdpecfdaaQdGxx2
namespace Go.Proofs.Ytiknnpfdpecfdaa.Gx
open Go.RowKit Go.Proofs.Ytiknnpfdpecfdaa.Own Go.Proofs.Ytiknnpfdpecfdaa.Fey Go.Proofs.Ytiknnpfdpecfdaa.Fe Go.Proofs.YtiknnpfdpecfdaaW.PrintWords Go.Proofs.YtiknnpfdpecfdaaW.PrintLast Go.Proofs.YtiknnpfdpecfdaaW.PrintMore
attribute [local go_sem] max2_int min2_int max_two min_two max_three min_three max_four min_four
set_option linter.unusedVariables false
set_option linter.unusedSimpArgs false
def fold_Reduce.l0 : Nat → List Int → ByteArray → Bool → Option (List Int × ByteArray × Int)
  | 0, _, _, _ => none
  | k + 1, x0, x1, x7 => if x7 = true then ((fold_step.f k x0 x1).bind fun bt164 => (fold_Reduce.l0 k bt164.1 bt164.2.1 bt164.2.2)) else ((fold_Clone.f x0).bind fun t169 => (some (t169, x1, 0)))
def fold_Reduce.f (k : Nat) (l0 : List Int) (a1 : ByteArray) : Option (List Int × ByteArray × Int) := (fold_sizes.f l0 1 9).bind fun t159 => (if t159 = true then ((fold_letters.f k a1 (wrap64 ((l0.length : Int) - 1))).bind fun t160 => (if t160 = true then ((fold_Clone.f l0).bind fun t161 => (fold_Reduce.l0 k t161 a1 true)) else (some (([] : List Int), (⟨#[]⟩ : ByteArray), 2)))) else (some (([] : List Int), (⟨#[]⟩ : ByteArray), 1)))
theorem fold_Reduce.mono_l : ∀ k, (∀ y0 y1 y2, LeO (fold_Reduce.l0 k y0 y1 y2) (fold_Reduce.l0 (k + 1) y0 y1 y2))
 | 0 => fun _ _ _ r h => by simp [fold_Reduce.l0] at h
 | k + 1 => by
  have ih0 := fold_Reduce.mono_l k
  ·intro y0 y1 y2
   unfold fold_Reduce.l0
   repeat' first
   | (with_reducible exact ih0 _ _ _)
   | (with_reducible exact fold_letters.mono _ _ _)
   | (with_reducible exact fold_step.mono _ _ _)
   | (with_reducible exact LeO.refl _)
   | (with_reducible exact LeO.none _)
   | (with_reducible refine LeO.ite ?_ ?_)
   | (with_reducible refine LeO.bind ?_ (fun _ => ?_))
   | exact ih0 _ _ _
   | exact fold_letters.mono _ _ _
   | exact fold_step.mono _ _ _
   | exact LeO.none _
   | refine LeO.ite ?_ ?_
   | refine LeO.bind ?_ (fun _ => ?_)
theorem fold_Reduce.mono : ∀ a0 a1 k, LeO (fold_Reduce.f k a0 a1) (fold_Reduce.f (k + 1) a0 a1) := by
  intro a0 a1 k
  have ih0 := fold_Reduce.mono_l k
  unfold fold_Reduce.f
  repeat' first
      | (with_reducible exact ih0 _ _ _)
      | (with_reducible exact fold_letters.mono _ _ _)
      | (with_reducible exact fold_step.mono _ _ _)
      | (with_reducible exact LeO.refl _)
      | (with_reducible exact LeO.none _)
      | (with_reducible refine LeO.ite ?_ ?_)
      | (with_reducible refine LeO.bind ?_ (fun _ => ?_))
      | exact ih0 _ _ _
      | exact fold_letters.mono _ _ _
      | exact fold_step.mono _ _ _
      | exact LeO.none _
      | refine LeO.ite ?_ ?_
      | refine LeO.bind ?_ (fun _ => ?_)
set_option maxHeartbeats 8000000 in
set_option maxRecDepth 100000 in
theorem fold_Reduce.calls (k : Nat) (A0 : Option Addr) (c0 : Nat) (l0 : List Int) (a1 : ByteArray) (r1 : List Int) (r2 : ByteArray) (r3 : Int) (w : World) (hr0 : Kd.C (Kd.int .i64) w A0 l0.length l0) (hc0 : l0.length ≤ c0) (h : fold_Reduce.f k l0 a1 = some (r1, r2, r3)) :
  Calls Try.prog 17 #[.slice A0 l0.length c0, .string a1] w fun e w' => ∃ v0_ : Value, e = .returned (.tuple #[v0_, .string r2, .int .i64 r3]) ∧ Kd.R (Kd.int .i64) 3 w' w.heap.size (fun _ => True) v0_ r1 ∧ Below w.heap.size w w' := by
 have HR0 := Aside0.mk hr0
 have HC0 := Aside0.mk hc0
 clear hr0 hc0
 have HB := Aside0.mk (Below.refl w.heap.size w)
 have H : ((fold_sizes.f l0 1 9).bind fun t159 => (if t159 = true then ((fold_letters.f k a1 (wrap64 ((l0.length : Int) - 1))).bind fun t160 => (if t160 = true then ((fold_Clone.f l0).bind fun t161 => (fold_Reduce.l0 k t161 a1 true)) else (some (([] : List Int), (⟨#[]⟩ : ByteArray), 2)))) else (some (([] : List Int), (⟨#[]⟩ : ByteArray), 1)))) = some (r1, r2, r3) := h
 clear h
 replace H := Option.bind_eq_some_iff.mp H
 obtain ⟨t159, A30, H⟩ := H
 replace H : (if t159 = true then ((fold_letters.f k a1 (wrap64 ((l0.length : Int) - 1))).bind fun t160 => (if t160 = true then ((fold_Clone.f l0).bind fun t161 => (fold_Reduce.l0 k t161 a1 true)) else (some (([] : List Int), (⟨#[]⟩ : ByteArray), 2)))) else (some (([] : List Int), (⟨#[]⟩ : ByteArray), 1))) = some (r1, r2, r3) := H
 have A3 := Aside0.mk A30
 clear A30
 by_cases c4 : t159 = true
 ·subst c4
  have H1 : ((fold_letters.f k a1 (wrap64 ((l0.length : Int) - 1))).bind fun t160 => (if t160 = true then ((fold_Clone.f l0).bind fun t161 => (fold_Reduce.l0 k t161 a1 true)) else (some (([] : List Int), (⟨#[]⟩ : ByteArray), 2)))) = some (r1, r2, r3) := by rw [if_pos rfl] at H; exact H
  clear H
  have H := H1
  clear H1
  replace H := Option.bind_eq_some_iff.mp H
  obtain ⟨t160, A50, H⟩ := H
  replace H : (if t160 = true then ((fold_Clone.f l0).bind fun t161 => (fold_Reduce.l0 k t161 a1 true)) else (some (([] : List Int), (⟨#[]⟩ : ByteArray), 2))) = some (r1, r2, r3) := H
  have A5 := Aside0.mk A50
  clear A50
  by_cases c6 : t160 = true
  ·subst c6
   have H1 : ((fold_Clone.f l0).bind fun t161 => (fold_Reduce.l0 k t161 a1 true)) = some (r1, r2, r3) := by rw [if_pos rfl] at H; exact H
   clear H
   have H := H1
   clear H1
   replace H := Option.bind_eq_some_iff.mp H
   obtain ⟨t161, A70, H⟩ := H
   replace H : (fold_Reduce.l0 k t161 a1 true) = some (r1, r2, r3) := H
   have A7 := Aside0.mk A70
   clear A70
   have H' := Aside0.mk H
   clear H
   go_enter Try.func17, Try.ntmps17
   go_wp2_with (first | ((with_reducible refine gate_callee (f := 47) rfl ?_); refine gL 10 Try.func47 #[.slice A0 l0.length c0, .int .i64 1, .int .i64 9] ?_; (with_reducible refine (fold_sizes.calls _ _ l0 1 9 true _ ?side1 ?side2 A3.out).mono ?_); (case side1 => exact cl (HR0.out)); (case side2 => exact HC0.out); rintro e w' ⟨rfl, ⟨nd, rfl⟩⟩; refine ⟨_, rfl, ?_⟩) | ((with_reducible refine gate_callee (f := 48) rfl ?_); refine gL 17 Try.func48 #[.string a1, .int .i64 (wrap64 ((l0.length : Int) - 1))] ?_; (with_reducible refine (fold_letters.calls k a1 (wrap64 ((l0.length : Int) - 1)) true _ A5.out).mono ?_); rintro e w' ⟨rfl, ⟨nd, rfl⟩⟩; refine ⟨_, rfl, ?_⟩) | ((with_reducible refine gate_callee (f := 51) rfl ?_); refine gL 20 Try.func51 #[.slice A0 l0.length c0] ?_; (with_reducible refine (fold_Clone.calls _ _ l0 t161 _ ?side1 ?side2 A7.out).mono ?_); (case side1 => exact cl (HR0.out)); (case side2 => exact HC0.out); rintro e w8 ⟨v162, rfl, ho0, hb⟩; refine ⟨_, rfl, ?_⟩; have n0_ := Aside0.mk (Kd.R_lower ho0 (below_size (bl HB))); have n1_ := Aside0.mk (below_step (bl HB) hb); clear HB; have HO163 := n0_; have HB := n1_; clear n0_ n1_; (try clear hb); (try clear hb2); (try clear hk); (try clear hi); (try clear ho0)))
   go_loopg [0, 1, 7] k (fun kq v0 v1 v7 w' => ∃ (x0_1 : List Int) (x1_1 : ByteArray) (x7_1 : Bool), v1 = .string x1_1 ∧ v7 = .bool x7_1 ∧ Aside0 (fold_Reduce.l0 kq x0_1 x1_1 x7_1 = some (r1, r2, r3)) ∧ Aside0 (kq ≤ k) ∧ Aside0 (Kd.V (Kd.int .i64) 3 w' w.heap.size (fun _ => True) v0 x0_1) ∧ Aside0 (Below w.heap.size w w'))
   case atStart => exact ⟨(t161), (a1), (true), (by first | rfl | (simp; done) | (simp [*]; done)), (by first | rfl | (simp; done) | (simp [*]; done)), H', ⟨Nat.le_refl _⟩, ⟨Kd.R_V (rl HO163)⟩, ⟨bl HB⟩⟩
   case round =>
    clear H'
    try clear c1
    try clear p2
    try clear c4
    try clear c5
    try clear c6
    try clear p6
    obtain ⟨x0_1, x1_1, x7_1, rfl, rfl, HA, HK1, HO_0, HB⟩ := hrel
    cases gk with
    | zero => exact absurd HA.out (by simp [fold_Reduce.l0])
    | succ k1 =>
     have H := HA.out
     clear HA
     simp only [fold_Reduce.l0] at H
     by_cases c9 : x7_1 = true
     ·subst c9
      have H1 : ((fold_step.f k1 x0_1 x1_1).bind fun bt164 => (fold_Reduce.l0 k1 bt164.1 bt164.2.1 bt164.2.2)) = some (r1, r2, r3) := by rw [if_pos rfl] at H; exact H
      clear H
      have H := H1
      clear H1
      replace H := Option.bind_eq_some_iff.mp H
      obtain ⟨⟨t164, t167, t168⟩, A100, H⟩ := H
      replace H : (fold_Reduce.l0 k1 t164 t167 t168) = some (r1, r2, r3) := H
      have A10 := Aside0.mk A100
      clear A100
      have H' := Aside0.mk H
      clear H
      obtain ⟨Ao11, co11, eo11⟩ := Kd.V_slice HO_0.out
      subst eo11
      go_wp2_with (first | ((with_reducible refine gate_callee (f := 52) rfl ?_); refine gL 25 Try.func52 #[.slice Ao11 x0_1.length co11, .string x1_1] ?_; (with_reducible refine (fold_step.calls k1 (fun k_ => True) _ _ x0_1 x1_1 t164 t167 t168 _ ?side1 A10.out).mono ?_); (case side1 => exact HO_0.out); rintro e w12 ⟨v165, rfl, ho0, hb⟩; refine ⟨_, rfl, ?_⟩; have n0_ := Aside0.mk (Kd.V_below (vl HO_0) hb); have n1_ := Aside0.mk (Kd.V_lower (Kd.V_mono (ok' := fun k_ => True) ho0 (fun k_ hk_ => trivial)) (below_size (bl HB))); have n2_ := Aside0.mk (below_step (bl HB) hb); clear HO_0; clear HB; have HO_0 := n0_; have HO166 := n1_; have HB := n2_; clear n0_ n1_ n2_; (try clear hb); (try clear hb2); (try clear hk); (try clear hi); (try clear ho0)))
      go_roundg k1
      case measure => have := HK1.out; omega
      case rel => exact ⟨(t164), (t167), (t168), (by first | rfl | (simp; done) | (simp [*]; done)), (by first | rfl | (simp; done) | (simp [*]; done)), H', ⟨by have := HK1.out; omega⟩, ⟨vl HO166⟩, ⟨bl HB⟩⟩
     ·replace c9 := Bool.eq_false_iff.mpr c9
      subst c9
      have H1 : ((fold_Clone.f x0_1).bind fun t169 => (some (t169, x1_1, 0))) = some (r1, r2, r3) := by rw [if_neg (show ¬ (false = true) by decide)] at H; exact H
      clear H
      have H := H1
      clear H1
      replace H := Option.bind_eq_some_iff.mp H
      obtain ⟨t169, A130, H⟩ := H
      replace H : (some (t169, x1_1, 0)) = some (r1, r2, r3) := H
      have A13 := Aside0.mk A130
      clear A130
      simp only [Option.some.injEq, Prod.mk.injEq] at H
      obtain ⟨rfl, rfl, rfl⟩ := H
      obtain ⟨Ao14, co14, eo14⟩ := Kd.V_slice HO_0.out
      subst eo14
      go_wp2_with (first | ((with_reducible refine gate_callee (f := 51) rfl ?_); refine gL 30 Try.func51 #[.slice Ao14 x0_1.length co14] ?_; (with_reducible refine (fold_Clone.calls _ _ x0_1 t169 _ ?side1 ?side2 A13.out).mono ?_); (case side1 => exact cl ((Kd.V_reads' HO_0.out).2.2)); (case side2 => exact (Kd.V_reads' HO_0.out).2.1); rintro e w15 ⟨v170, rfl, ho0, hb⟩; refine ⟨_, rfl, ?_⟩; have n0_ := Aside0.mk (Kd.V_elder' (vl HO_0) (Kd.R_base ho0) hb); have n1_ := Aside0.mk (Kd.R_lower ho0 (below_size (bl HB))); have n2_ := Aside0.mk (below_step (bl HB) hb); clear HO_0; clear HB; have HO_0 := n0_; have HO171 := n1_; have HB := n2_; clear n0_ n1_ n2_; (try clear hb); (try clear hb2); (try clear hk); (try clear hi); (try clear ho0)))
      go_ret3
      exact ⟨_, by first | rfl | (simp [errW_none, errW_some] <;> rfl) | (simp [*, errW_none, errW_some] <;> rfl), by (with_reducible repeat (first | apply Kd.R_alloc | apply Kd.R_drewN | apply Kd.R_drew)); exact HO171.out, by repeat (first | (with_reducible first | exact HB.out | apply below_alloc | apply pw_below_drewN | apply below_drew1) | exact HB.out)⟩
  ·replace c6 := Bool.eq_false_iff.mpr c6
   subst c6
   have H1 : (some (([] : List Int), (⟨#[]⟩ : ByteArray), 2)) = some (r1, r2, r3) := by rw [if_neg (show ¬ (false = true) by decide)] at H; exact H
   clear H
   have H := H1
   clear H1
   simp only [Option.some.injEq, Prod.mk.injEq] at H
   obtain ⟨rfl, rfl, rfl⟩ := H
   go_enter Try.func17, Try.ntmps17
   go_wp2_with (first | ((with_reducible refine gate_callee (f := 47) rfl ?_); refine gL 10 Try.func47 #[.slice A0 l0.length c0, .int .i64 1, .int .i64 9] ?_; (with_reducible refine (fold_sizes.calls _ _ l0 1 9 true _ ?side1 ?side2 A3.out).mono ?_); (case side1 => exact cl (HR0.out)); (case side2 => exact HC0.out); rintro e w' ⟨rfl, ⟨nd, rfl⟩⟩; refine ⟨_, rfl, ?_⟩) | ((with_reducible refine gate_callee (f := 48) rfl ?_); refine gL 17 Try.func48 #[.string a1, .int .i64 (wrap64 ((l0.length : Int) - 1))] ?_; (with_reducible refine (fold_letters.calls k a1 (wrap64 ((l0.length : Int) - 1)) false _ A5.out).mono ?_); rintro e w' ⟨rfl, ⟨nd, rfl⟩⟩; refine ⟨_, rfl, ?_⟩))
   go_ret3
   exact ⟨_, by first | rfl | (simp [errW_none, errW_some] <;> rfl) | (simp [*, errW_none, errW_some] <;> rfl), by first | exact Kd.R_nil _ _ _ _ _ | exact Kd.N_nil _ _ _ _ _ | exact Kd.V_nil _ _ _ _ _ | exact Kd.Q_nil _ _ _ _ _ | exact Kd.S_nil _ _ _ _ _, by repeat (first | (with_reducible first | exact HB.out | apply below_alloc | apply pw_below_drewN | apply below_drew1) | exact HB.out)⟩
 ·replace c4 := Bool.eq_false_iff.mpr c4
  subst c4
  have H1 : (some (([] : List Int), (⟨#[]⟩ : ByteArray), 1)) = some (r1, r2, r3) := by rw [if_neg (show ¬ (false = true) by decide)] at H; exact H
  clear H
  have H := H1
  clear H1
  simp only [Option.some.injEq, Prod.mk.injEq] at H
  obtain ⟨rfl, rfl, rfl⟩ := H
  go_enter Try.func17, Try.ntmps17
  go_wp2_with (first | ((with_reducible refine gate_callee (f := 47) rfl ?_); refine gL 10 Try.func47 #[.slice A0 l0.length c0, .int .i64 1, .int .i64 9] ?_; (with_reducible refine (fold_sizes.calls _ _ l0 1 9 false _ ?side1 ?side2 A3.out).mono ?_); (case side1 => exact cl (HR0.out)); (case side2 => exact HC0.out); rintro e w' ⟨rfl, ⟨nd, rfl⟩⟩; refine ⟨_, rfl, ?_⟩))
  go_ret3
  exact ⟨_, by first | rfl | (simp [errW_none, errW_some] <;> rfl) | (simp [*, errW_none, errW_some] <;> rfl), by first | exact Kd.R_nil _ _ _ _ _ | exact Kd.N_nil _ _ _ _ _ | exact Kd.V_nil _ _ _ _ _ | exact Kd.Q_nil _ _ _ _ _ | exact Kd.S_nil _ _ _ _ _, by repeat (first | (with_reducible first | exact HB.out | apply below_alloc | apply pw_below_drewN | apply below_drew1) | exact HB.out)⟩
def gampref01_Same.l0 : Nat → List Int → List Int → Int → Option (Bool)
  | 0, _, _, _ => none
  | k + 1, x0, x1, x5 => if x5 < (x0.length : Int) then (if 0 ≤ x5 then (if x5 < (x1.length : Int) then (if (rd x0 x5) = (rd x1 x5) then (gampref01_Same.l0 k x0 x1 (wrap64 (x5 + 1))) else (some false)) else (none)) else (none)) else (some true)
def gampref01_Same.f (k : Nat) (l0 : List Int) (l1 : List Int) : Option (Bool) := if (l0.length : Int) = (l1.length : Int) then (gampref01_Same.l0 k l0 l1 0) else (some false)
theorem gampref01_Same.mono_l : ∀ k, (∀ y0 y1 y2, LeO (gampref01_Same.l0 k y0 y1 y2) (gampref01_Same.l0 (k + 1) y0 y1 y2))
 | 0 => fun _ _ _ r h => by simp [gampref01_Same.l0] at h
 | k + 1 => by
  have ih0 := gampref01_Same.mono_l k
  ·intro y0 y1 y2
   unfold gampref01_Same.l0
   repeat' first
   | (with_reducible exact ih0 _ _ _)
   | (with_reducible exact LeO.refl _)
   | (with_reducible exact LeO.none _)
   | (with_reducible refine LeO.ite ?_ ?_)
   | (with_reducible refine LeO.bind ?_ (fun _ => ?_))
   | exact ih0 _ _ _
   | exact LeO.none _
   | refine LeO.ite ?_ ?_
   | refine LeO.bind ?_ (fun _ => ?_)
theorem gampref01_Same.mono : ∀ a0 a1 k, LeO (gampref01_Same.f k a0 a1) (gampref01_Same.f (k + 1) a0 a1) := by
  intro a0 a1 k
  have ih0 := gampref01_Same.mono_l k
  unfold gampref01_Same.f
  repeat' first
      | (with_reducible exact ih0 _ _ _)
      | (with_reducible exact LeO.refl _)
      | (with_reducible exact LeO.none _)
      | (with_reducible refine LeO.ite ?_ ?_)
      | (with_reducible refine LeO.bind ?_ (fun _ => ?_))
      | exact ih0 _ _ _
      | exact LeO.none _
      | refine LeO.ite ?_ ?_
      | refine LeO.bind ?_ (fun _ => ?_)
set_option maxHeartbeats 8000000 in
set_option maxRecDepth 100000 in
theorem gampref01_Same.calls (k : Nat) (A0 : Option Addr) (c0 : Nat) (l0 : List Int) (A1 : Option Addr) (c1 : Nat) (l1 : List Int) (r : Bool) (w : World) (hr0 : Kd.C (Kd.int .i64) w A0 l0.length l0) (hc0 : l0.length ≤ c0) (hr1 : Kd.C (Kd.int .i64) w A1 l1.length l1) (hc1 : l1.length ≤ c1) (h : gampref01_Same.f k l0 l1 = some r) :
  Calls Try.prog 22 #[.slice A0 l0.length c0, .slice A1 l1.length c1] w fun e w' => e = .returned (.bool r) ∧ Drawn0 w w' := by
 have HR0 := Aside0.mk hr0
 have HC0 := Aside0.mk hc0
 clear hr0 hc0
 have HR1 := Aside0.mk hr1
 have HC1 := Aside0.mk hc1
 clear hr1 hc1
 have H : (if (l0.length : Int) = (l1.length : Int) then (gampref01_Same.l0 k l0 l1 0) else (some false)) = some r := h
 clear h
 by_cases c3 : (l0.length : Int) = (l1.length : Int)
 ·rw [if_pos c3] at H
  have c3b0 : ((l0.length : Int) == (l1.length : Int)) = true := beq_iff_eq.mpr c3
  have c3b1 : ((l0.length : Int) != (l1.length : Int)) = false := bne_eq_false_iff_eq.mpr c3
  have c3b2 : (l0.length == l1.length) = true := by first | simpa using c3 | (simp at c3 ⊢; omega)
  clear c3
  have H' := Aside0.mk H
  clear H
  go_enter Try.func22, Try.ntmps22
  go_wp2
  repeat (go_quiet (fail); try go_wp2)
  go_loopg [5] k (fun kq v5 w' => ∃ (x5_1 : Int), v5 = .int .i64 x5_1 ∧ Aside0 (gampref01_Same.l0 kq l0 l1 x5_1 = some r) ∧ Aside0 (kq ≤ k) ∧ Drawn0 w w')
  case atStart => exact ⟨(0), (by first | rfl | (simp; done) | (simp [*]; done)), H', ⟨Nat.le_refl _⟩, by repeat (first | exact Drawn0.refl _ | apply Drawn0.step)⟩
  case round =>
   clear H'
   try clear c1
   try clear c2
   try clear p2
   try clear c3
   try clear c3b0
   try clear c3b1
   try clear c3b2
   obtain ⟨x5_1, rfl, HA, HK1, ⟨m1, rfl⟩⟩ := hrel
   cases gk with
   | zero => exact absurd HA.out (by simp [gampref01_Same.l0])
   | succ k1 =>
    have H := HA.out
    clear HA
    simp only [gampref01_Same.l0] at H
    by_cases c4 : x5_1 < (l0.length : Int)
    ·rw [if_pos c4] at H
     have c4b0 : decide (x5_1 < (l0.length : Int)) = true := decide_eq_true c4
     clear c4
     by_cases c5 : 0 ≤ x5_1
     ·rw [if_pos c5] at H
      have c5b0 : decide (0 ≤ x5_1) = true := decide_eq_true c5
      clear c5
      by_cases c6 : x5_1 < (l1.length : Int)
      ·rw [if_pos c6] at H
       have c6b0 : decide (x5_1 < (l1.length : Int)) = true := decide_eq_true c6
       clear c6
       by_cases c7 : (rd l0 x5_1) = (rd l1 x5_1)
       ·rw [if_pos c7] at H
        have c7b0 : ((rd l0 x5_1) == (rd l1 x5_1)) = true := beq_iff_eq.mpr c7
        have c7b1 : ((rd l0 x5_1) != (rd l1 x5_1)) = false := bne_eq_false_iff_eq.mpr c7
        clear c7
        have H' := Aside0.mk H
        clear H
        have p172 : 0 ≤ (x5_1 : Int) := ofd
        have q172 : x5_1 < (l0.length : Int) := ofd
        obtain ⟨ad172, e172, hx172_0⟩ := Kd.at_int HR0.out x5_1 p172 q172
        cases e172
        replace p172 := eq_true p172
        replace q172 := eq_true q172
        have p173 : 0 ≤ (x5_1 : Int) := ofd
        have q173 : x5_1 < (l1.length : Int) := ofd
        obtain ⟨ad173, e173, hx173_0⟩ := Kd.at_int HR1.out x5_1 p173 q173
        cases e173
        replace p173 := eq_true p173
        replace q173 := eq_true q173
        go_wp2
        repeat (go_quiet (fail); try go_wp2)
        go_roundg k1
        case measure => have := HK1.out; omega
        case rel => exact ⟨(wrap64 (x5_1 + 1)), (by first | rfl | (simp; done) | (simp [*]; done)), H', ⟨by have := HK1.out; omega⟩, by repeat (first | exact Drawn0.refl _ | apply Drawn0.step)⟩
       ·rw [if_neg c7] at H
        have c7b0 : ((rd l0 x5_1) == (rd l1 x5_1)) = false := beq_eq_false_iff_ne.mpr c7
        have c7b1 : ((rd l0 x5_1) != (rd l1 x5_1)) = true := bne_iff_ne.mpr c7
        obtain rfl := Option.some.inj H
        have p172 : 0 ≤ (x5_1 : Int) := ofd
        have q172 : x5_1 < (l0.length : Int) := ofd
        obtain ⟨ad172, e172, hx172_0⟩ := Kd.at_int HR0.out x5_1 p172 q172
        cases e172
        replace p172 := eq_true p172
        replace q172 := eq_true q172
        have p173 : 0 ≤ (x5_1 : Int) := ofd
        have q173 : x5_1 < (l1.length : Int) := ofd
        obtain ⟨ad173, e173, hx173_0⟩ := Kd.at_int HR1.out x5_1 p173 q173
        cases e173
        replace p173 := eq_true p173
        replace q173 := eq_true q173
        go_wp2
        repeat (go_quiet (fail); try go_wp2)
        go_ret
        exact ⟨by first | rfl | (simp; done) | (simp [*]; done), by repeat (first | exact Drawn0.refl _ | apply Drawn0.step)⟩
      ·rw [if_neg c6] at H
       exact absurd H (by simp)
     ·rw [if_neg c5] at H
      exact absurd H (by simp)
    ·rw [if_neg c4] at H
     have c4b0 : decide (x5_1 < (l0.length : Int)) = false := decide_eq_false c4
     clear c4
     obtain rfl := Option.some.inj H
     go_wp2
     repeat (go_quiet (fail); try go_wp2)
     go_ret
     exact ⟨by first | rfl | (simp; done) | (simp [*]; done), by repeat (first | exact Drawn0.refl _ | apply Drawn0.step)⟩
 ·rw [if_neg c3] at H
  have c3b0 : ((l0.length : Int) == (l1.length : Int)) = false := beq_eq_false_iff_ne.mpr c3
  have c3b1 : ((l0.length : Int) != (l1.length : Int)) = true := bne_iff_ne.mpr c3
  have c3b2 : (l0.length == l1.length) = false := by first | simpa using c3 | (simp at c3 ⊢; omega)
  obtain rfl := Option.some.inj H
  go_enter Try.func22, Try.ntmps22
  go_wp2
  repeat (go_quiet (fail); try go_wp2)
  go_ret
  exact ⟨by first | rfl | (simp; done) | (simp [*]; done), by repeat (first | exact Drawn0.refl _ | apply Drawn0.step)⟩
def gamplaw01_lives.f (k : Nat)  : Option (Bool) := (fold_Layers.f (([3, 1, 3] : List Int)) (⟨#[86, 77]⟩ : ByteArray)).bind fun bt177 => ((fold_Reduce.f k (([3, 1, 3] : List Int)) (⟨#[86, 77]⟩ : ByteArray)).bind fun bt184 => ((fold_Count.f (([1, 1, 1] : List Int))).bind fun bt192 => (if bt177.2 = 0 then ((gampref01_Same.f k bt177.1 (([0, 1, 2] : List Int))).bind fun t197 => (if t197 = true then (if bt184.2.2 = 0 then ((gampref01_Same.f k bt184.1 (([5] : List Int))).bind fun t201 => (if t201 = true then (if bt184.2.1.toList = ([] : List UInt8) then (if bt192.1 = 6 then (some (bt192.2 == 0)) else (some false)) else (some false)) else (some false))) else (some false)) else (some false))) else (some false))))
theorem gamplaw01_lives.mono : ∀ k, LeO (gamplaw01_lives.f k ) (gamplaw01_lives.f (k + 1) ) := by
  intro  k
  unfold gamplaw01_lives.f
  repeat' first
      | (with_reducible exact fold_Reduce.mono _ _ _)
      | (with_reducible exact gampref01_Same.mono _ _ _)
      | (with_reducible exact LeO.refl _)
      | (with_reducible exact LeO.none _)
      | (with_reducible refine LeO.ite ?_ ?_)
      | (with_reducible refine LeO.bind ?_ (fun _ => ?_))
      | exact fold_Reduce.mono _ _ _
      | exact gampref01_Same.mono _ _ _
      | exact LeO.none _
      | refine LeO.ite ?_ ?_
      | refine LeO.bind ?_ (fun _ => ?_)
set_option maxHeartbeats 8000000 in
set_option maxRecDepth 100000 in
theorem gamplaw01_lives.callsT (k : Nat)  (r : Bool) (w : World) (h : gamplaw01_lives.f k  = some r) (hrt : r = true) :
  Calls Try.prog 20 #[] w fun e w' => e = .returned (.bool r) ∧ Below w.heap.size w w' := by
 have HB := Aside0.mk (Below.refl w.heap.size w)
 have H : ((fold_Layers.f (([3, 1, 3] : List Int)) (⟨#[86, 77]⟩ : ByteArray)).bind fun bt177 => ((fold_Reduce.f k (([3, 1, 3] : List Int)) (⟨#[86, 77]⟩ : ByteArray)).bind fun bt184 => ((fold_Count.f (([1, 1, 1] : List Int))).bind fun bt192 => (if bt177.2 = 0 then ((gampref01_Same.f k bt177.1 (([0, 1, 2] : List Int))).bind fun t197 => (if t197 = true then (if bt184.2.2 = 0 then ((gampref01_Same.f k bt184.1 (([5] : List Int))).bind fun t201 => (if t201 = true then (if bt184.2.1.toList = ([] : List UInt8) then (if bt192.1 = 6 then (some (bt192.2 == 0)) else (some false)) else (some false)) else (some false))) else (some false)) else (some false))) else (some false))))) = some r := h
 clear h
 obtain ⟨y174, hy174⟩ : ∃ y_ : List Int, y_ = (([3, 1, 3] : List Int)) := ⟨_, rfl⟩
 replace H : ((fold_Layers.f y174 (⟨#[86, 77]⟩ : ByteArray)).bind fun bt177 => ((fold_Reduce.f k (([3, 1, 3] : List Int)) (⟨#[86, 77]⟩ : ByteArray)).bind fun bt184 => ((fold_Count.f (([1, 1, 1] : List Int))).bind fun bt192 => (if bt177.2 = 0 then ((gampref01_Same.f k bt177.1 (([0, 1, 2] : List Int))).bind fun t197 => (if t197 = true then (if bt184.2.2 = 0 then ((gampref01_Same.f k bt184.1 (([5] : List Int))).bind fun t201 => (if t201 = true then (if bt184.2.1.toList = ([] : List UInt8) then (if bt192.1 = 6 then (some (bt192.2 == 0)) else (some false)) else (some false)) else (some false))) else (some false)) else (some false))) else (some false))))) = some r := by first | (rw [hy174]; with_reducible exact H) | (have H2_ := (Option.bind_some _ _).symm.trans H; rw [hy174]; with_reducible exact H2_) | (have H2_ := (Option.bind_some _ _).symm.trans H; with_reducible exact H2_) | with_reducible exact H | (rw [hy174]; exact H) | exact H
 have Ny174 := Aside0.mk hy174
 clear hy174
 replace H := Option.bind_eq_some_iff.mp H
 obtain ⟨⟨t177, t178⟩, A10, H⟩ := H
 replace H : ((fold_Reduce.f k (([3, 1, 3] : List Int)) (⟨#[86, 77]⟩ : ByteArray)).bind fun bt184 => ((fold_Count.f (([1, 1, 1] : List Int))).bind fun bt192 => (if t178 = 0 then ((gampref01_Same.f k t177 (([0, 1, 2] : List Int))).bind fun t197 => (if t197 = true then (if bt184.2.2 = 0 then ((gampref01_Same.f k bt184.1 (([5] : List Int))).bind fun t201 => (if t201 = true then (if bt184.2.1.toList = ([] : List UInt8) then (if bt192.1 = 6 then (some (bt192.2 == 0)) else (some false)) else (some false)) else (some false))) else (some false)) else (some false))) else (some false)))) = some r := H
 have A1 := Aside0.mk A10
 clear A10
 obtain ⟨y181, hy181⟩ : ∃ y_ : List Int, y_ = (([3, 1, 3] : List Int)) := ⟨_, rfl⟩
 replace H : ((fold_Reduce.f k y181 (⟨#[86, 77]⟩ : ByteArray)).bind fun bt184 => ((fold_Count.f (([1, 1, 1] : List Int))).bind fun bt192 => (if t178 = 0 then ((gampref01_Same.f k t177 (([0, 1, 2] : List Int))).bind fun t197 => (if t197 = true then (if bt184.2.2 = 0 then ((gampref01_Same.f k bt184.1 (([5] : List Int))).bind fun t201 => (if t201 = true then (if bt184.2.1.toList = ([] : List UInt8) then (if bt192.1 = 6 then (some (bt192.2 == 0)) else (some false)) else (some false)) else (some false))) else (some false)) else (some false))) else (some false)))) = some r := by first | (rw [hy181]; with_reducible exact H) | (have H2_ := (Option.bind_some _ _).symm.trans H; rw [hy181]; with_reducible exact H2_) | (have H2_ := (Option.bind_some _ _).symm.trans H; with_reducible exact H2_) | with_reducible exact H | (rw [hy181]; exact H) | exact H
 have Ny181 := Aside0.mk hy181
 clear hy181
 replace H := Option.bind_eq_some_iff.mp H
 obtain ⟨⟨t184, t185, t186⟩, A20, H⟩ := H
 replace H : ((fold_Count.f (([1, 1, 1] : List Int))).bind fun bt192 => (if t178 = 0 then ((gampref01_Same.f k t177 (([0, 1, 2] : List Int))).bind fun t197 => (if t197 = true then (if t186 = 0 then ((gampref01_Same.f k t184 (([5] : List Int))).bind fun t201 => (if t201 = true then (if t185.toList = ([] : List UInt8) then (if bt192.1 = 6 then (some (bt192.2 == 0)) else (some false)) else (some false)) else (some false))) else (some false)) else (some false))) else (some false))) = some r := H
 have A2 := Aside0.mk A20
 clear A20
 obtain ⟨y189, hy189⟩ : ∃ y_ : List Int, y_ = (([1, 1, 1] : List Int)) := ⟨_, rfl⟩
 replace H : ((fold_Count.f y189).bind fun bt192 => (if t178 = 0 then ((gampref01_Same.f k t177 (([0, 1, 2] : List Int))).bind fun t197 => (if t197 = true then (if t186 = 0 then ((gampref01_Same.f k t184 (([5] : List Int))).bind fun t201 => (if t201 = true then (if t185.toList = ([] : List UInt8) then (if bt192.1 = 6 then (some (bt192.2 == 0)) else (some false)) else (some false)) else (some false))) else (some false)) else (some false))) else (some false))) = some r := by first | (rw [hy189]; with_reducible exact H) | (have H2_ := (Option.bind_some _ _).symm.trans H; rw [hy189]; with_reducible exact H2_) | (have H2_ := (Option.bind_some _ _).symm.trans H; with_reducible exact H2_) | with_reducible exact H | (rw [hy189]; exact H) | exact H
 have Ny189 := Aside0.mk hy189
 clear hy189
 replace H := Option.bind_eq_some_iff.mp H
 obtain ⟨⟨t192, t193⟩, A30, H⟩ := H
 replace H : (if t178 = 0 then ((gampref01_Same.f k t177 (([0, 1, 2] : List Int))).bind fun t197 => (if t197 = true then (if t186 = 0 then ((gampref01_Same.f k t184 (([5] : List Int))).bind fun t201 => (if t201 = true then (if t185.toList = ([] : List UInt8) then (if t192 = 6 then (some (t193 == 0)) else (some false)) else (some false)) else (some false))) else (some false)) else (some false))) else (some false)) = some r := H
 have A3 := Aside0.mk A30
 clear A30
 by_cases c4 : t178 = 0
 ·rw [if_pos c4] at H
  have c4b0 : (t178 == 0) = true := beq_iff_eq.mpr c4
  have c4b1 : (t178 != 0) = false := bne_eq_false_iff_eq.mpr c4
  clear c4
  obtain ⟨y194, hy194⟩ : ∃ y_ : List Int, y_ = (([0, 1, 2] : List Int)) := ⟨_, rfl⟩
  replace H : ((gampref01_Same.f k t177 y194).bind fun t197 => (if t197 = true then (if t186 = 0 then ((gampref01_Same.f k t184 (([5] : List Int))).bind fun t201 => (if t201 = true then (if t185.toList = ([] : List UInt8) then (if t192 = 6 then (some (t193 == 0)) else (some false)) else (some false)) else (some false))) else (some false)) else (some false))) = some r := by first | (rw [hy194]; with_reducible exact H) | (have H2_ := (Option.bind_some _ _).symm.trans H; rw [hy194]; with_reducible exact H2_) | (have H2_ := (Option.bind_some _ _).symm.trans H; with_reducible exact H2_) | with_reducible exact H | (rw [hy194]; exact H) | exact H
  have Ny194 := Aside0.mk hy194
  clear hy194
  replace H := Option.bind_eq_some_iff.mp H
  obtain ⟨t197, A50, H⟩ := H
  replace H : (if t197 = true then (if t186 = 0 then ((gampref01_Same.f k t184 (([5] : List Int))).bind fun t201 => (if t201 = true then (if t185.toList = ([] : List UInt8) then (if t192 = 6 then (some (t193 == 0)) else (some false)) else (some false)) else (some false))) else (some false)) else (some false)) = some r := H
  have A5 := Aside0.mk A50
  clear A50
  by_cases c6 : t197 = true
  ·subst c6
   have H1 : (if t186 = 0 then ((gampref01_Same.f k t184 (([5] : List Int))).bind fun t201 => (if t201 = true then (if t185.toList = ([] : List UInt8) then (if t192 = 6 then (some (t193 == 0)) else (some false)) else (some false)) else (some false))) else (some false)) = some r := by rw [if_pos rfl] at H; exact H
   clear H
   have H := H1
   clear H1
   by_cases c7 : t186 = 0
   ·rw [if_pos c7] at H
    have c7b0 : (t186 == 0) = true := beq_iff_eq.mpr c7
    have c7b1 : (t186 != 0) = false := bne_eq_false_iff_eq.mpr c7
    clear c7
    obtain ⟨y198, hy198⟩ : ∃ y_ : List Int, y_ = (([5] : List Int)) := ⟨_, rfl⟩
    replace H : ((gampref01_Same.f k t184 y198).bind fun t201 => (if t201 = true then (if t185.toList = ([] : List UInt8) then (if t192 = 6 then (some (t193 == 0)) else (some false)) else (some false)) else (some false))) = some r := by first | (rw [hy198]; with_reducible exact H) | (have H2_ := (Option.bind_some _ _).symm.trans H; rw [hy198]; with_reducible exact H2_) | (have H2_ := (Option.bind_some _ _).symm.trans H; with_reducible exact H2_) | with_reducible exact H | (rw [hy198]; exact H) | exact H
    have Ny198 := Aside0.mk hy198
    clear hy198
    replace H := Option.bind_eq_some_iff.mp H
    obtain ⟨t201, A80, H⟩ := H
    replace H : (if t201 = true then (if t185.toList = ([] : List UInt8) then (if t192 = 6 then (some (t193 == 0)) else (some false)) else (some false)) else (some false)) = some r := H
    have A8 := Aside0.mk A80
    clear A80
    by_cases c9 : t201 = true
    ·subst c9
     have H1 : (if t185.toList = ([] : List UInt8) then (if t192 = 6 then (some (t193 == 0)) else (some false)) else (some false)) = some r := by rw [if_pos rfl] at H; exact H
     clear H
     have H := H1
     clear H1
     by_cases c10 : t185.toList = ([] : List UInt8)
     ·rw [if_pos c10] at H
      have c10b0 : (t185.toList == ([] : List UInt8)) = true := beq_iff_eq.mpr c10
      have c10b1 : (t185.toList != ([] : List UInt8)) = false := bne_eq_false_iff_eq.mpr c10
      clear c10
      by_cases c11 : t192 = 6
      ·rw [if_pos c11] at H
       have c11b0 : (t192 == 6) = true := beq_iff_eq.mpr c11
       have c11b1 : (t192 != 6) = false := bne_eq_false_iff_eq.mpr c11
       clear c11
       obtain rfl := Option.some.inj H
       go_enter Try.func20, Try.ntmps20
       go_wp2_with (first | ((with_reducible refine gate_dst (N := 9) rfl ?_); (try (refine gate_guard (by rfl) ?_; dsimp only)); refine Kd.R_lit (Kd.int .i64) _ 3 ?hg (N := 9) ?hd (xs := ([3, 1, 3] : List Int)) (inner := [.int .i64 3, .int .i64 1, .int .i64 3]) (ok := fun _ => True) (okp := fun _ => True) ?hr ?hp (fun _ hk => hk) trivial (Below.refl _ _) (Nat.le_refl _) (by simp) ?_; (case hd => rfl); (case hg => rfl); (case hr => first | (go_simp; done) | (go_simp; rfl)); (case hp => exact (Reps.one (show Kd.M (Kd.int .i64) _ _ _ 3 [.int .i64 3] from rfl) (Reps.one (show Kd.M (Kd.int .i64) _ _ _ 1 [.int .i64 1] from rfl) (Reps.one (show Kd.M (Kd.int .i64) _ _ _ 3 [.int .i64 3] from rfl) (Reps.none _ _))))); intro v175 w12 ho13 hb hg_ hnew_; clear hg_ hnew_; (first | rw [← Ny174.out] at ho13 | (simp only [Int.reduceToNat] at ho13; rw [← Ny174.out] at ho13)); have n0_ := Aside0.mk (Kd.R_lower ho13 (below_size (bl HB))); have n1_ := Aside0.mk (below_step (bl HB) hb); clear HB; have HO176 := n0_; have HB := n1_; clear n0_ n1_; clear hb ho13; obtain ⟨Ao14, co14, eo14⟩ := Kd.R_slice HO176.out; subst eo14) | ((with_reducible refine gate_callee (f := 16) rfl ?_); refine gL 10 Try.func16 #[.slice Ao14 y174.length co14, .string (⟨#[86, 77]⟩ : ByteArray)] ?_; (with_reducible refine (fold_Layers.calls _ _ y174 (⟨#[86, 77]⟩ : ByteArray) t177 t178 _ ?side1 ?side2 A1.out).mono ?_); (case side1 => exact cl ((Kd.R_reads' HO176.out).2.2)); (case side2 => exact (Kd.R_reads' HO176.out).2.1); rintro e w15 ⟨v179, rfl, ho0, hb⟩; refine ⟨_, rfl, ?_⟩; have n0_ := Aside0.mk (Kd.R_elder' (rl HO176) (Kd.R_base ho0) hb); have n1_ := Aside0.mk (Kd.R_lower (Kd.R_new' ho0 (Kd.R_lt (rl HO176))) (below_size (bl HB))); have n2_ := Aside0.mk (below_step (bl HB) hb); clear HO176; clear HB; have HO176 := n0_; have HO180 := n1_; have HB := n2_; clear n0_ n1_ n2_; (try clear hb); (try clear hb2); (try clear hk); (try clear hi); (try clear ho0)) | ((with_reducible refine gate_dst (N := 14) rfl ?_); (try (refine gate_guard (by rfl) ?_; dsimp only)); refine Kd.R_lit (Kd.int .i64) _ 3 ?hg (N := 14) ?hd (xs := ([3, 1, 3] : List Int)) (inner := [.int .i64 3, .int .i64 1, .int .i64 3]) (ok := fun _ => True) (okp := fun _ => True) ?hr ?hp (fun _ hk => hk) trivial (Below.refl _ _) (Nat.le_refl _) (by simp) ?_; (case hd => rfl); (case hg => rfl); (case hr => first | (go_simp; done) | (go_simp; rfl)); (case hp => exact (Reps.one (show Kd.M (Kd.int .i64) _ _ _ 3 [.int .i64 3] from rfl) (Reps.one (show Kd.M (Kd.int .i64) _ _ _ 1 [.int .i64 1] from rfl) (Reps.one (show Kd.M (Kd.int .i64) _ _ _ 3 [.int .i64 3] from rfl) (Reps.none _ _))))); intro v182 w16 ho17 hb hg_ hnew_; clear hg_ hnew_; (first | rw [← Ny181.out] at ho17 | (simp only [Int.reduceToNat] at ho17; rw [← Ny181.out] at ho17)); have n0_ := Aside0.mk (Kd.R_elder' (rl HO176) (Kd.R_base ho17) hb); have n1_ := Aside0.mk (Kd.R_elder' (rl HO180) (Kd.R_base ho17) hb); have n2_ := Aside0.mk (Kd.R_lower (Kd.R_new' (Kd.R_new' ho17 (Kd.R_lt (rl HO176))) (Kd.R_lt (rl HO180))) (below_size (bl HB))); have n3_ := Aside0.mk (below_step (bl HB) hb); clear HO176; clear HO180; clear HB; have HO176 := n0_; have HO180 := n1_; have HO183 := n2_; have HB := n3_; clear n0_ n1_ n2_ n3_; clear hb ho17; obtain ⟨Ao18, co18, eo18⟩ := Kd.R_slice HO183.out; subst eo18) | ((with_reducible refine gate_callee (f := 17) rfl ?_); refine gL 15 Try.func17 #[.slice Ao18 y181.length co18, .string (⟨#[86, 77]⟩ : ByteArray)] ?_; (with_reducible refine (fold_Reduce.calls k _ _ y181 (⟨#[86, 77]⟩ : ByteArray) t184 t185 t186 _ ?side1 ?side2 A2.out).mono ?_); (case side1 => exact cl ((Kd.R_reads' HO183.out).2.2)); (case side2 => exact (Kd.R_reads' HO183.out).2.1); rintro e w19 ⟨v187, rfl, ho0, hb⟩; refine ⟨_, rfl, ?_⟩; have n0_ := Aside0.mk (Kd.R_elder' (rl HO176) (Kd.R_base ho0) hb); have n1_ := Aside0.mk (Kd.R_elder' (rl HO180) (Kd.R_base ho0) hb); have n2_ := Aside0.mk (Kd.R_elder' (rl HO183) (Kd.R_base ho0) hb); have n3_ := Aside0.mk (Kd.R_lower (Kd.R_new' (Kd.R_new' (Kd.R_new' ho0 (Kd.R_lt (rl HO176))) (Kd.R_lt (rl HO180))) (Kd.R_lt (rl HO183))) (below_size (bl HB))); have n4_ := Aside0.mk (below_step (bl HB) hb); clear HO176; clear HO180; clear HO183; clear HB; have HO176 := n0_; have HO180 := n1_; have HO183 := n2_; have HO188 := n3_; have HB := n4_; clear n0_ n1_ n2_ n3_ n4_; (try clear hb); (try clear hb2); (try clear hk); (try clear hi); (try clear ho0)) | ((with_reducible refine gate_dst (N := 20) rfl ?_); (try (refine gate_guard (by rfl) ?_; dsimp only)); refine Kd.R_lit (Kd.int .i64) _ 3 ?hg (N := 20) ?hd (xs := ([1, 1, 1] : List Int)) (inner := [.int .i64 1, .int .i64 1, .int .i64 1]) (ok := fun _ => True) (okp := fun _ => True) ?hr ?hp (fun _ hk => hk) trivial (Below.refl _ _) (Nat.le_refl _) (by simp) ?_; (case hd => rfl); (case hg => rfl); (case hr => first | (go_simp; done) | (go_simp; rfl)); (case hp => exact (Reps.one (show Kd.M (Kd.int .i64) _ _ _ 1 [.int .i64 1] from rfl) (Reps.one (show Kd.M (Kd.int .i64) _ _ _ 1 [.int .i64 1] from rfl) (Reps.one (show Kd.M (Kd.int .i64) _ _ _ 1 [.int .i64 1] from rfl) (Reps.none _ _))))); intro v190 w20 ho21 hb hg_ hnew_; clear hg_ hnew_; (first | rw [← Ny189.out] at ho21 | (simp only [Int.reduceToNat] at ho21; rw [← Ny189.out] at ho21)); have n0_ := Aside0.mk (Kd.R_elder' (rl HO176) (Kd.R_base ho21) hb); have n1_ := Aside0.mk (Kd.R_elder' (rl HO180) (Kd.R_base ho21) hb); have n2_ := Aside0.mk (Kd.R_elder' (rl HO183) (Kd.R_base ho21) hb); have n3_ := Aside0.mk (Kd.R_elder' (rl HO188) (Kd.R_base ho21) hb); have n4_ := Aside0.mk (Kd.R_lower (Kd.R_new' (Kd.R_new' (Kd.R_new' (Kd.R_new' ho21 (Kd.R_lt (rl HO176))) (Kd.R_lt (rl HO180))) (Kd.R_lt (rl HO183))) (Kd.R_lt (rl HO188))) (below_size (bl HB))); have n5_ := Aside0.mk (below_step (bl HB) hb); clear HO176; clear HO180; clear HO183; clear HO188; clear HB; have HO176 := n0_; have HO180 := n1_; have HO183 := n2_; have HO188 := n3_; have HO191 := n4_; have HB := n5_; clear n0_ n1_ n2_ n3_ n4_ n5_; clear hb ho21; obtain ⟨Ao22, co22, eo22⟩ := Kd.R_slice HO191.out; subst eo22) | ((with_reducible refine gate_callee (f := 25) rfl ?_); refine gL 21 Try.func25 #[.slice Ao22 y189.length co22] ?_; (with_reducible refine (fold_Count.calls _ _ y189 t192 t193 _ ?side1 ?side2 A3.out).mono ?_); (case side1 => exact cl ((Kd.R_reads' HO191.out).2.2)); (case side2 => exact (Kd.R_reads' HO191.out).2.1); rintro e w23 ⟨rfl, hb⟩; refine ⟨_, rfl, ?_⟩; have n0_ := Aside0.mk (Kd.R_below (rl HO176) hb); have n1_ := Aside0.mk (Kd.R_below (rl HO180) hb); have n2_ := Aside0.mk (Kd.R_below (rl HO183) hb); have n3_ := Aside0.mk (Kd.R_below (rl HO188) hb); have n4_ := Aside0.mk (Kd.R_below (rl HO191) hb); have n5_ := Aside0.mk (below_step (bl HB) hb); clear HO176; clear HO180; clear HO183; clear HO188; clear HO191; clear HB; have HO176 := n0_; have HO180 := n1_; have HO183 := n2_; have HO188 := n3_; have HO191 := n4_; have HB := n5_; clear n0_ n1_ n2_ n3_ n4_ n5_; (try clear hb); (try clear hb2); (try clear hk); (try clear hi)) | ((with_reducible refine gate_dst (N := 28) rfl ?_); (try (refine gate_guard (by rfl) ?_; dsimp only)); refine Kd.R_lit (Kd.int .i64) _ 3 ?hg (N := 28) ?hd (xs := ([0, 1, 2] : List Int)) (inner := [.int .i64 0, .int .i64 1, .int .i64 2]) (ok := fun _ => True) (okp := fun _ => True) ?hr ?hp (fun _ hk => hk) trivial (Below.refl _ _) (Nat.le_refl _) (by simp) ?_; (case hd => rfl); (case hg => rfl); (case hr => first | (go_simp; done) | (go_simp; rfl)); (case hp => exact (Reps.one (show Kd.M (Kd.int .i64) _ _ _ 0 [.int .i64 0] from rfl) (Reps.one (show Kd.M (Kd.int .i64) _ _ _ 1 [.int .i64 1] from rfl) (Reps.one (show Kd.M (Kd.int .i64) _ _ _ 2 [.int .i64 2] from rfl) (Reps.none _ _))))); intro v195 w24 ho25 hb hg_ hnew_; clear hg_ hnew_; (first | rw [← Ny194.out] at ho25 | (simp only [Int.reduceToNat] at ho25; rw [← Ny194.out] at ho25)); have n0_ := Aside0.mk (Kd.R_elder' (rl HO176) (Kd.R_base ho25) hb); have n1_ := Aside0.mk (Kd.R_elder' (rl HO180) (Kd.R_base ho25) hb); have n2_ := Aside0.mk (Kd.R_elder' (rl HO183) (Kd.R_base ho25) hb); have n3_ := Aside0.mk (Kd.R_elder' (rl HO188) (Kd.R_base ho25) hb); have n4_ := Aside0.mk (Kd.R_elder' (rl HO191) (Kd.R_base ho25) hb); have n5_ := Aside0.mk (Kd.R_lower (Kd.R_new' (Kd.R_new' (Kd.R_new' (Kd.R_new' (Kd.R_new' ho25 (Kd.R_lt (rl HO176))) (Kd.R_lt (rl HO180))) (Kd.R_lt (rl HO183))) (Kd.R_lt (rl HO188))) (Kd.R_lt (rl HO191))) (below_size (bl HB))); have n6_ := Aside0.mk (below_step (bl HB) hb); clear HO176; clear HO180; clear HO183; clear HO188; clear HO191; clear HB; have HO176 := n0_; have HO180 := n1_; have HO183 := n2_; have HO188 := n3_; have HO191 := n4_; have HO196 := n5_; have HB := n6_; clear n0_ n1_ n2_ n3_ n4_ n5_ n6_; clear hb ho25; obtain ⟨Ao26, co26, eo26⟩ := Kd.R_slice HO180.out; subst eo26; obtain ⟨Ao27, co27, eo27⟩ := Kd.R_slice HO196.out; subst eo27) | (go_at_call 22; (with_reducible refine (gampref01_Same.calls k _ _ t177 _ _ y194 true _ ?side1 ?side2 ?side3 ?side4 A5.out).mono ?_); (case side1 => exact cl ((Kd.R_reads' HO180.out).2.2)); (case side2 => exact (Kd.R_reads' HO180.out).2.1); (case side3 => exact cl ((Kd.R_reads' HO196.out).2.2)); (case side4 => exact (Kd.R_reads' HO196.out).2.1); rintro e w' ⟨rfl, ⟨nd, rfl⟩⟩) | ((with_reducible refine gate_dst (N := 37) rfl ?_); (try (refine gate_guard (by rfl) ?_; dsimp only)); refine Kd.R_lit (Kd.int .i64) _ 3 ?hg (N := 37) ?hd (xs := ([5] : List Int)) (inner := [.int .i64 5]) (ok := fun _ => True) (okp := fun _ => True) ?hr ?hp (fun _ hk => hk) trivial (Below.refl _ _) (Nat.le_refl _) (by simp) ?_; (case hd => rfl); (case hg => rfl); (case hr => first | (go_simp; done) | (go_simp; rfl)); (case hp => exact (Reps.one (show Kd.M (Kd.int .i64) _ _ _ 5 [.int .i64 5] from rfl) (Reps.none _ _))); intro v199 w28 ho29 hb hg_ hnew_; clear hg_ hnew_; (first | rw [← Ny198.out] at ho29 | (simp only [Int.reduceToNat] at ho29; rw [← Ny198.out] at ho29)); have n0_ := Aside0.mk (Kd.R_elder' (rl HO176) (Kd.R_base ho29) hb); have n1_ := Aside0.mk (Kd.R_elder' (rl HO180) (Kd.R_base ho29) hb); have n2_ := Aside0.mk (Kd.R_elder' (rl HO183) (Kd.R_base ho29) hb); have n3_ := Aside0.mk (Kd.R_elder' (rl HO188) (Kd.R_base ho29) hb); have n4_ := Aside0.mk (Kd.R_elder' (rl HO191) (Kd.R_base ho29) hb); have n5_ := Aside0.mk (Kd.R_elder' (rl HO196) (Kd.R_base ho29) hb); have n6_ := Aside0.mk (Kd.R_lower (Kd.R_new' (Kd.R_new' (Kd.R_new' (Kd.R_new' (Kd.R_new' (Kd.R_new' ho29 (Kd.R_lt (rl HO176))) (Kd.R_lt (rl HO180))) (Kd.R_lt (rl HO183))) (Kd.R_lt (rl HO188))) (Kd.R_lt (rl HO191))) (Kd.R_lt (rl HO196))) (below_size (bl HB))); have n7_ := Aside0.mk (below_step (bl HB) hb); clear HO176; clear HO180; clear HO183; clear HO188; clear HO191; clear HO196; clear HB; have HO176 := n0_; have HO180 := n1_; have HO183 := n2_; have HO188 := n3_; have HO191 := n4_; have HO196 := n5_; have HO200 := n6_; have HB := n7_; clear n0_ n1_ n2_ n3_ n4_ n5_ n6_ n7_; clear hb ho29; obtain ⟨Ao30, co30, eo30⟩ := Kd.R_slice HO188.out; subst eo30; obtain ⟨Ao31, co31, eo31⟩ := Kd.R_slice HO200.out; subst eo31) | (go_at_call 22; (with_reducible refine (gampref01_Same.calls k _ _ t184 _ _ y198 true _ ?side1 ?side2 ?side3 ?side4 A8.out).mono ?_); (case side1 => exact cl ((Kd.R_reads' HO188.out).2.2)); (case side2 => exact (Kd.R_reads' HO188.out).2.1); (case side3 => exact cl ((Kd.R_reads' HO200.out).2.2)); (case side4 => exact (Kd.R_reads' HO200.out).2.1); rintro e w' ⟨rfl, ⟨nd, rfl⟩⟩))
       go_ret
       exact ⟨by first | rfl | (simp [errW_none, errW_some] <;> rfl) | (simp [*, errW_none, errW_some] <;> rfl), by repeat (first | (with_reducible first | exact HB.out | apply below_alloc | apply pw_below_drewN | apply below_drew1) | exact HB.out)⟩
      ·rw [if_neg c11] at H
       have c11b0 : (t192 == 6) = false := beq_eq_false_iff_ne.mpr c11
       have c11b1 : (t192 != 6) = true := bne_iff_ne.mpr c11
       rw [hrt] at H
       cases H
     ·rw [if_neg c10] at H
      have c10b0 : (t185.toList == ([] : List UInt8)) = false := beq_eq_false_iff_ne.mpr c10
      have c10b1 : (t185.toList != ([] : List UInt8)) = true := bne_iff_ne.mpr c10
      rw [hrt] at H
      cases H
    ·replace c9 := Bool.eq_false_iff.mpr c9
     subst c9
     have H1 : (some false) = some r := by rw [if_neg (show ¬ (false = true) by decide)] at H; exact H
     clear H
     have H := H1
     clear H1
     rw [hrt] at H
     cases H
   ·rw [if_neg c7] at H
    have c7b0 : (t186 == 0) = false := beq_eq_false_iff_ne.mpr c7
    have c7b1 : (t186 != 0) = true := bne_iff_ne.mpr c7
    rw [hrt] at H
    cases H
  ·replace c6 := Bool.eq_false_iff.mpr c6
   subst c6
   have H1 : (some false) = some r := by rw [if_neg (show ¬ (false = true) by decide)] at H; exact H
   clear H
   have H := H1
   clear H1
   rw [hrt] at H
   cases H
 ·rw [if_neg c4] at H
  have c4b0 : (t178 == 0) = false := beq_eq_false_iff_ne.mpr c4
  have c4b1 : (t178 != 0) = true := bne_iff_ne.mpr c4
  rw [hrt] at H
  cases H
end Go.Proofs.Ytiknnpfdpecfdaa.Gx

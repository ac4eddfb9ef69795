/- The declarations of Rex1 that the claim Qw needs. -/
import Derived.Test.YtdpolfflemocaaaQwTkP
import Derived.Test.YtdpolfflemocaaaQwRex0
namespace Go.Proofs.Ytdpolfflemocaaa.Re
open Go.RowKit Go.Proofs.Ytdpolfflemocaaa.Own Go.Proofs.Ytdpolfflemocaaa.Rx Go.Proofs.YtdpolfflemocaaaW.PrintWords Go.Proofs.YtdpolfflemocaaaW.PrintLast Go.Proofs.YtdpolfflemocaaaW.PrintMore
attribute [local go_sem] max2_int min2_int max_two min_two max_three min_three max_four min_four
set_option linter.unusedVariables false
set_option linter.unusedSimpArgs false
mutual
def gampref04_Eliminates.l0 : Nat → List (S52) → List Int → Int → Option (Bool)
  | 0, _, _, _ => none
  | k + 1, x0, x1, x5 => if x5 < (x1.length : Int) then (gampref04_Eliminates.l1 k x0 x1 x5 (([] : List Int)) (wrap64 (x5 + 1))) else (some true)
def gampref04_Eliminates.l1 : Nat → List (S52) → List Int → Int → List Int → Int → Option (Bool)
  | 0, _, _, _, _, _ => none
  | k + 1, x0, x1, x5, x6, x7 => if x7 < (x1.length : Int) then (if 0 ≤ x5 then (if x5 < (x1.length : Int) then (if 0 ≤ x7 then ((Rx.gampref04_Near.f k x0 (rd x1 x5) (rd x1 x7)).bind fun t106 => (if t106 = true then (if x6.length < 17592186044416 then (gampref04_Eliminates.l1 k x0 x1 x5 (x6 ++ [rd x1 x7]) (wrap64 (x7 + 1))) else (none)) else (gampref04_Eliminates.l1 k x0 x1 x5 x6 (wrap64 (x7 + 1))))) else (none)) else (none)) else (none)) else ((Rx.gampref04_Clique.f k x0 x6).bind fun t111 => (if t111 = true then (gampref04_Eliminates.l0 k x0 x1 (wrap64 (x5 + 1))) else (some false)))
end
def gampref04_Eliminates.f (k : Nat) (l0 : List (S52)) (l1 : List Int) : Option (Bool) := gampref04_Eliminates.l0 k l0 l1 0
def gampref04_Eliminates.T8 : Bool × List (List Nat × List Nat) := (true, [([], []), ([], []), ([], []), ([1, 2], [1, 2]), ([3], [3]), ([], []), ([], []), ([5, 6], [5, 6]), ([7], [7]), ([0, 4, 8], [0, 4, 8])])
def gampref04_Eliminates.B8 : List Nat := [0, 0, 0, 6, 14, 0, 0, 96, 224, 511]
theorem gampref04_Eliminates.tab8 : rtab .any (opsOf Try.f28 8) = gampref04_Eliminates.T8 := by kernel_rfl
theorem gampref04_Eliminates.bits8 : waitsOk gampref04_Eliminates.T8.2 gampref04_Eliminates.B8 = true := by kernel_rfl
set_option maxHeartbeats 8000000 in
set_option maxRecDepth 100000 in
theorem gampref04_Eliminates.calls (k : Nat) (A0 : Option Addr) (c0 : Nat) (l0 : List (S52)) (A1 : Option Addr) (c1 : Nat) (l1 : List Int) (r : Bool) (w : World) (hr0 : Kd.C k52 w A0 l0.length l0) (hc0 : l0.length ≤ c0) (hr1 : Kd.C (Kd.int .i64) w A1 l1.length l1) (hc1 : l1.length ≤ c1) (h : gampref04_Eliminates.f k l0 l1 = some r) :
  Calls Try.prog 28 #[.slice A0 l0.length c0, .slice A1 l1.length c1] w fun e w' => e = .returned (.bool r) ∧ Below w.heap.size w w' := by
 have HR0 := Aside0.mk hr0
 have HC0 := Aside0.mk hc0
 clear hr0 hc0
 have HR1 := Aside0.mk hr1
 have HC1 := Aside0.mk hc1
 clear hr1 hc1
 have HB := Aside0.mk (Below.refl w.heap.size w)
 have H : (gampref04_Eliminates.l0 k l0 l1 0) = some r := h
 clear h
 have H' := Aside0.mk H
 clear H
 go_enter Try.func28, Try.ntmps28
 go_wp2
 go_loopg [5] k (fun kq v5 w' => ∃ (x5_1 : Int), v5 = .int .i64 x5_1 ∧ Aside0 (gampref04_Eliminates.l0 kq l0 l1 x5_1 = some r) ∧ Aside0 (kq ≤ k) ∧ Aside0 (Below w.heap.size w w'))
 case atStart => exact ⟨(0), (by first | rfl | (simp; done) | (simp [*]; done)), H', ⟨Nat.le_refl _⟩, ⟨bl HB⟩⟩
 case round =>
  clear H'
  try clear c1
  try clear c2
  try clear p2
  obtain ⟨x5_1, rfl, HA, HK1, HB⟩ := hrel
  cases gk with
  | zero => exact absurd HA.out (by simp [gampref04_Eliminates.l0])
  | succ k1 =>
   have H := HA.out
   clear HA
   simp only [gampref04_Eliminates.l0] at H
   by_cases c3 : x5_1 < (l1.length : Int)
   ·rw [if_pos c3] at H
    have c3b0 : decide (x5_1 < (l1.length : Int)) = true := decide_eq_true c3
    clear c3
    obtain ⟨y101, hy101⟩ : ∃ y_ : List Int, y_ = (([] : List Int)) := ⟨_, rfl⟩
    replace H : (gampref04_Eliminates.l1 k1 l0 l1 x5_1 y101 (wrap64 (x5_1 + 1))) = some r := by first | (rw [hy101]; with_reducible exact H) | (have H2_ := (Option.bind_some _ _).symm.trans H; rw [hy101]; with_reducible exact H2_) | (have H2_ := (Option.bind_some _ _).symm.trans H; with_reducible exact H2_) | with_reducible exact H | (rw [hy101]; exact H) | exact H
    have Ny101 := Aside0.mk hy101
    clear hy101
    have H' := Aside0.mk H
    clear H
    go_wp2_with (first | ((with_reducible refine gate_dst (N := 14) rfl ?_); refine Kd.R_lit (Kd.int .i64) _ 3 ?hg (N := 14) ?hd (xs := ([] : List Int)) (inner := []) (ok := fun _ => True) (okp := fun _ => True) ?hr ?hp (fun _ hk => hk) trivial (Below.refl _ _) (Nat.le_refl _) (by simp) ?_; (case hd => rfl); (case hg => rfl); (case hr => first | (go_simp; done) | (go_simp; rfl)); (case hp => exact (Reps.none _ _)); intro v102 w4 ho5 hb hg_ hnew_; clear hg_ hnew_; (first | rw [← Ny101.out] at ho5 | (simp only [Int.reduceToNat] at ho5; rw [← Ny101.out] at ho5)); have n0_ := Aside0.mk (Kd.R_lower ho5 (below_size (bl HB))); have n1_ := Aside0.mk (below_step (bl HB) hb); clear HB; have HO103 := n0_; have HB := n1_; clear n0_ n1_; clear hb ho5))
    go_loopg [6, 7] k1 (fun kq v6 v7 w' => ∃ (x6_2 : List Int) (x7_2 : Int), v7 = .int .i64 x7_2 ∧ Aside0 (gampref04_Eliminates.l1 kq l0 l1 x5_1 x6_2 x7_2 = some r) ∧ Aside0 (kq ≤ k1) ∧ Aside0 (Kd.R (Kd.int .i64) 3 w' w.heap.size (fun _ => True) v6 x6_2) ∧ Aside0 (Below w.heap.size w w'))
    case atStart => exact ⟨(y101), (wrap64 (x5_1 + 1)), (by first | rfl | (simp; done) | (simp [*]; done)), H', ⟨Nat.le_refl _⟩, ⟨rl HO103⟩, ⟨bl HB⟩⟩
    case round =>
     clear H'
     try clear c1
     try clear c2
     try clear p2
     try clear c3
     try clear c3b0
     try clear p2
     obtain ⟨x6_2, x7_2, rfl, HA, HK2, HO_6, HB⟩ := hrel
     cases gk with
     | zero => exact absurd HA.out (by simp [gampref04_Eliminates.l1])
     | succ k2 =>
      have H := HA.out
      clear HA
      simp only [gampref04_Eliminates.l1] at H
      by_cases c6 : x7_2 < (l1.length : Int)
      ·rw [if_pos c6] at H
       have c6b0 : decide (x7_2 < (l1.length : Int)) = true := decide_eq_true c6
       clear c6
       by_cases c7 : 0 ≤ x5_1
       ·rw [if_pos c7] at H
        have c7b0 : decide (0 ≤ x5_1) = true := decide_eq_true c7
        clear c7
        by_cases c8 : x5_1 < (l1.length : Int)
        ·rw [if_pos c8] at H
         have c8b0 : decide (x5_1 < (l1.length : Int)) = true := decide_eq_true c8
         clear c8
         by_cases c9 : 0 ≤ x7_2
         ·rw [if_pos c9] at H
          have c9b0 : decide (0 ≤ x7_2) = true := decide_eq_true c9
          clear c9
          replace H := Option.bind_eq_some_iff.mp H
          obtain ⟨t106, A100, H⟩ := H
          replace H : (if t106 = true then (if x6_2.length < 17592186044416 then (gampref04_Eliminates.l1 k2 l0 l1 x5_1 (x6_2 ++ [rd l1 x7_2]) (wrap64 (x7_2 + 1))) else (none)) else (gampref04_Eliminates.l1 k2 l0 l1 x5_1 x6_2 (wrap64 (x7_2 + 1)))) = some r := H
          have A10 := Aside0.mk A100
          clear A100
          by_cases c11 : t106 = true
          ·subst c11
           have H1 : (if x6_2.length < 17592186044416 then (gampref04_Eliminates.l1 k2 l0 l1 x5_1 (x6_2 ++ [rd l1 x7_2]) (wrap64 (x7_2 + 1))) else (none)) = some r := by rw [if_pos rfl] at H; exact H
           clear H
           have H := H1
           clear H1
           by_cases c12 : x6_2.length < 17592186044416
           ·rw [if_pos c12] at H
            have LMc12 := Aside0.mk c12
            clear c12
            obtain ⟨y108, hy108⟩ : ∃ y_ : List Int, y_ = (x6_2 ++ [rd l1 x7_2]) := ⟨_, rfl⟩
            replace H : (gampref04_Eliminates.l1 k2 l0 l1 x5_1 y108 (wrap64 (x7_2 + 1))) = some r := by first | (rw [hy108]; with_reducible exact H) | (have H2_ := (Option.bind_some _ _).symm.trans H; rw [hy108]; with_reducible exact H2_) | (have H2_ := (Option.bind_some _ _).symm.trans H; with_reducible exact H2_) | with_reducible exact H | (rw [hy108]; exact H) | exact H
            have Ny108 := Aside0.mk hy108
            clear hy108
            have H' := Aside0.mk H
            clear H
            try go_wp2
            have n0_ := Aside0.mk (Kd.R_drew HO_6.out)
            have n1_ := Aside0.mk (below_drew1 HB.out)
            clear HO_6 HB
            have HO_6 := n0_; have HB := n1_
            clear n0_ n1_
            have p104 : 0 ≤ (x5_1 : Int) := ofd
            have q104 : x5_1 < (l1.length : Int) := ofd
            obtain ⟨ad104, e104, hx104_0⟩ := Kd.at_int HR1.out x5_1 p104 q104
            have hw104_0 := hx104_0
            cases e104
            replace hx104_0 := (HB.out.cell (World.block_lt_of_cell? w _ hx104_0)).trans hx104_0
            replace p104 := eq_true p104
            replace q104 := eq_true q104
            have p105 : 0 ≤ (x7_2 : Int) := ofd
            have q105 : x7_2 < (l1.length : Int) := ofd
            obtain ⟨ad105, e105, hx105_0⟩ := Kd.at_int HR1.out x7_2 p105 q105
            have hw105_0 := hx105_0
            obtain rfl : ad104 = ad105 := (by injection e105)
            replace hx105_0 := (HB.out.cell (World.block_lt_of_cell? w _ hx105_0)).trans hx105_0
            replace p105 := eq_true p105
            replace q105 := eq_true q105
            refine start_ (n := 10) (S := fun w' => w'.cell? (ad104.add (x5_1).toNat) = some (.int .i64 (rd l1 x5_1)) ∧ w'.cell? (ad104.add (x7_2).toNat) = some (.int .i64 (rd l1 x7_2))) (ds := []) #[false, false, false, false, false, false, false, false, false, false] (by kernel_rfl) rfl rfl ⟨((HB.out.cell (World.block_lt_of_cell? w _ hw104_0)).trans hw104_0), ((HB.out.cell (World.block_lt_of_cell? w _ hw105_0)).trans hw105_0)⟩ (fun hHeld => ?_); refine with_tabW gampref04_Eliminates.tab8 gampref04_Eliminates.bits8 (fun HT_ HW_ => ?_)
            generalize wr.drew = w13 at HO_6 HB hx104_0 hx105_0 hHeld ⊢
            refine pr 0 23 HT_ ?_
            refine pr 1 24 HT_ ?_
            refine pr 2 25 HT_ ?_
            refine pr 3 26 HT_ ?_
            refine pr 5 28 HT_ ?_
            refine pr 6 29 HT_ ?_
            refine pr 7 30 HT_ ?_
            refine tr 4 27 HT_ HW_ hHeld ?_
            refine tr 8 31 HT_ HW_ hHeld ?_
            refine on 9 (some 32) HT_ (fun K hK => ?_)
            refine gS Try.func61 #[.slice A0 l0.length c0, .int .i64 (rd l1 x5_1), .int .i64 (rd l1 x7_2)] ?_
            with_reducible refine (Rx.gampref04_Near.calls k2 _ _ l0 (rd l1 x5_1) (rd l1 x7_2) true _ ?side1 ?side2 A10.out).mono ?_
            (case side1 => exact cl (Kd.C_below HR0.out HB.out))
            (case side2 => exact HC0.out)
            rintro e w14 ⟨rfl, hb⟩
            refine ⟨_, rfl, ?_⟩
            have n0_ := Aside0.mk (Kd.R_below (rl HO_6) hb)
            have n1_ := Aside0.mk (below_step (bl HB) hb)
            clear HO_6 HB
            have HO_6 := n0_; have HB := n1_
            clear n0_ n1_
            (try clear hb)
            (try clear hb2)
            (try clear hk)
            (try clear hi)
            refine hK.out _ _ ⟨((HB.out.cell (World.block_lt_of_cell? w _ hw104_0)).trans hw104_0), ((HB.out.cell (World.block_lt_of_cell? w _ hw105_0)).trans hw105_0)⟩ (fun hHeld => ?_)
            clear hK K
            refine nr (some 32) ?_
            refine dn HT_ ?_
            have p107 : 0 ≤ (x7_2 : Int) := ofd
            have q107 : x7_2 < (l1.length : Int) := ofd
            obtain ⟨ad107, e107, hx107_0⟩ := Kd.at_int HR1.out x7_2 p107 q107
            obtain rfl : ad104 = ad107 := (by injection e107)
            replace hx107_0 := (HB.out.cell (World.block_lt_of_cell? w _ hx107_0)).trans hx107_0
            replace p107 := eq_true p107
            replace q107 := eq_true q107
            try go_wp2_with (first | ((with_reducible refine gate_builtin (b := .append) (xs := #[.tmp 33, .tmp 38]) rfl ?_); at_builtin; refine Kd.R_append (Kd.int .i64) (w0 := w) w.heap.size rfl (.tmp 33) (.tmp 38) 34 3 (.int .i64 0) 8 rfl Try.underlying34 info3 rfl (by decide) (by omega) u6 x6_2 (rd l1 x7_2) [.int .i64 (rd l1 x7_2)] (fun _ => True) (fun _ => False) rfl rfl ?aP (fun _ hk => hk.elim) ?aF ?aO ?aB ?aS ?aL ?_; (case aP => exact rfl); (case aB => exact (bl HB)); (case aF => exact (fun _ _ => trivial)); (case aO => exact (rl HO_6)); (case aS => exact (below_size (bl HB))); (case aL => have := LMc12.out; omega); intro v109 w15 ho hb hg hat; rw [← Ny108.out] at ho; have n0_ := Aside0.mk (hb); have n1_ := Aside0.mk (ho); clear HB; clear HO_6; have HB := n0_; have HO110 := n1_; clear n0_ n1_; clear ho hb hg hat))
            go_roundg k2
            case measure => have := HK1.out; have := HK2.out; omega
            case rel => exact ⟨(y108), (wrap64 (x7_2 + 1)), (by first | rfl | (simp; done) | (simp [*]; done)), H', ⟨by have := HK1.out; have := HK2.out; omega⟩, ⟨rl HO110⟩, ⟨bl HB⟩⟩
           ·rw [if_neg c12] at H
            exact absurd H (by simp)
          ·replace c11 := Bool.eq_false_iff.mpr c11
           subst c11
           have H1 : (gampref04_Eliminates.l1 k2 l0 l1 x5_1 x6_2 (wrap64 (x7_2 + 1))) = some r := by rw [if_neg (show ¬ (false = true) by decide)] at H; exact H
           clear H
           have H := H1
           clear H1
           have H' := Aside0.mk H
           clear H
           try go_wp2
           have n0_ := Aside0.mk (Kd.R_drew HO_6.out)
           have n1_ := Aside0.mk (below_drew1 HB.out)
           clear HO_6 HB
           have HO_6 := n0_; have HB := n1_
           clear n0_ n1_
           have p104 : 0 ≤ (x5_1 : Int) := ofd
           have q104 : x5_1 < (l1.length : Int) := ofd
           obtain ⟨ad104, e104, hx104_0⟩ := Kd.at_int HR1.out x5_1 p104 q104
           have hw104_0 := hx104_0
           cases e104
           replace hx104_0 := (HB.out.cell (World.block_lt_of_cell? w _ hx104_0)).trans hx104_0
           replace p104 := eq_true p104
           replace q104 := eq_true q104
           have p105 : 0 ≤ (x7_2 : Int) := ofd
           have q105 : x7_2 < (l1.length : Int) := ofd
           obtain ⟨ad105, e105, hx105_0⟩ := Kd.at_int HR1.out x7_2 p105 q105
           have hw105_0 := hx105_0
           obtain rfl : ad104 = ad105 := (by injection e105)
           replace hx105_0 := (HB.out.cell (World.block_lt_of_cell? w _ hx105_0)).trans hx105_0
           replace p105 := eq_true p105
           replace q105 := eq_true q105
           refine start_ (n := 10) (S := fun w' => w'.cell? (ad104.add (x5_1).toNat) = some (.int .i64 (rd l1 x5_1)) ∧ w'.cell? (ad104.add (x7_2).toNat) = some (.int .i64 (rd l1 x7_2))) (ds := []) #[false, false, false, false, false, false, false, false, false, false] (by kernel_rfl) rfl rfl ⟨((HB.out.cell (World.block_lt_of_cell? w _ hw104_0)).trans hw104_0), ((HB.out.cell (World.block_lt_of_cell? w _ hw105_0)).trans hw105_0)⟩ (fun hHeld => ?_); refine with_tabW gampref04_Eliminates.tab8 gampref04_Eliminates.bits8 (fun HT_ HW_ => ?_)
           generalize wr.drew = w16 at HO_6 HB hx104_0 hx105_0 hHeld ⊢
           refine pr 0 23 HT_ ?_
           refine pr 1 24 HT_ ?_
           refine pr 2 25 HT_ ?_
           refine pr 3 26 HT_ ?_
           refine pr 5 28 HT_ ?_
           refine pr 6 29 HT_ ?_
           refine pr 7 30 HT_ ?_
           refine tr 4 27 HT_ HW_ hHeld ?_
           refine tr 8 31 HT_ HW_ hHeld ?_
           refine on 9 (some 32) HT_ (fun K hK => ?_)
           refine gS Try.func61 #[.slice A0 l0.length c0, .int .i64 (rd l1 x5_1), .int .i64 (rd l1 x7_2)] ?_
           with_reducible refine (Rx.gampref04_Near.calls k2 _ _ l0 (rd l1 x5_1) (rd l1 x7_2) false _ ?side1 ?side2 A10.out).mono ?_
           (case side1 => exact cl (Kd.C_below HR0.out HB.out))
           (case side2 => exact HC0.out)
           rintro e w17 ⟨rfl, hb⟩
           refine ⟨_, rfl, ?_⟩
           have n0_ := Aside0.mk (Kd.R_below (rl HO_6) hb)
           have n1_ := Aside0.mk (below_step (bl HB) hb)
           clear HO_6 HB
           have HO_6 := n0_; have HB := n1_
           clear n0_ n1_
           (try clear hb)
           (try clear hb2)
           (try clear hk)
           (try clear hi)
           refine hK.out _ _ ⟨((HB.out.cell (World.block_lt_of_cell? w _ hw104_0)).trans hw104_0), ((HB.out.cell (World.block_lt_of_cell? w _ hw105_0)).trans hw105_0)⟩ (fun hHeld => ?_)
           clear hK K
           refine nr (some 32) ?_
           refine dn HT_ ?_
           try go_wp2
           go_roundg k2
           case measure => have := HK1.out; have := HK2.out; omega
           case rel => exact ⟨(x6_2), (wrap64 (x7_2 + 1)), (by first | rfl | (simp; done) | (simp [*]; done)), H', ⟨by have := HK1.out; have := HK2.out; omega⟩, ⟨rl HO_6⟩, ⟨bl HB⟩⟩
         ·rw [if_neg c9] at H
          exact absurd H (by simp)
        ·rw [if_neg c8] at H
         exact absurd H (by simp)
       ·rw [if_neg c7] at H
        exact absurd H (by simp)
      ·rw [if_neg c6] at H
       have c6b0 : decide (x7_2 < (l1.length : Int)) = false := decide_eq_false c6
       clear c6
       replace H := Option.bind_eq_some_iff.mp H
       obtain ⟨t111, A180, H⟩ := H
       replace H : (if t111 = true then (gampref04_Eliminates.l0 k2 l0 l1 (wrap64 (x5_1 + 1))) else (some false)) = some r := H
       have A18 := Aside0.mk A180
       clear A180
       by_cases c19 : t111 = true
       ·subst c19
        have H1 : (gampref04_Eliminates.l0 k2 l0 l1 (wrap64 (x5_1 + 1))) = some r := by rw [if_pos rfl] at H; exact H
        clear H
        have H := H1
        clear H1
        have H' := Aside0.mk H
        clear H
        obtain ⟨Ao20, co20, eo20⟩ := Kd.R_slice HO_6.out
        subst eo20
        go_wp2_with (first | ((with_reducible refine gate_callee (f := 39) rfl ?_); refine gL 42 Try.func39 #[.slice A0 l0.length c0, .slice Ao20 x6_2.length co20] ?_; (with_reducible refine (Rx.gampref04_Clique.calls k2 _ _ l0 _ _ x6_2 true _ ?side1 ?side2 ?side3 ?side4 A18.out).mono ?_); (case side1 => exact cl (Kd.C_below HR0.out HB.out)); (case side2 => exact HC0.out); (case side3 => exact cl ((Kd.R_reads' HO_6.out).2.2)); (case side4 => exact (Kd.R_reads' HO_6.out).2.1); rintro e w21 ⟨rfl, hb⟩; refine ⟨_, rfl, ?_⟩; have n0_ := Aside0.mk (Kd.R_below (rl HO_6) hb); have n1_ := Aside0.mk (below_step (bl HB) hb); clear HO_6; clear HB; have HO_6 := n0_; have HB := n1_; clear n0_ n1_; (try clear hb); (try clear hb2); (try clear hk); (try clear hi)))
        go_roundg k2
        case measure => have := HK1.out; have := HK2.out; omega
        case rel => exact ⟨(wrap64 (x5_1 + 1)), (by first | rfl | (simp; done) | (simp [*]; done)), H', ⟨by have := HK1.out; have := HK2.out; omega⟩, ⟨bl HB⟩⟩
       ·replace c19 := Bool.eq_false_iff.mpr c19
        subst c19
        have H1 : (some false) = some r := by rw [if_neg (show ¬ (false = true) by decide)] at H; exact H
        clear H
        have H := H1
        clear H1
        obtain rfl := Option.some.inj H
        obtain ⟨Ao22, co22, eo22⟩ := Kd.R_slice HO_6.out
        subst eo22
        go_wp2_with (first | ((with_reducible refine gate_callee (f := 39) rfl ?_); refine gL 42 Try.func39 #[.slice A0 l0.length c0, .slice Ao22 x6_2.length co22] ?_; (with_reducible refine (Rx.gampref04_Clique.calls k2 _ _ l0 _ _ x6_2 false _ ?side1 ?side2 ?side3 ?side4 A18.out).mono ?_); (case side1 => exact cl (Kd.C_below HR0.out HB.out)); (case side2 => exact HC0.out); (case side3 => exact cl ((Kd.R_reads' HO_6.out).2.2)); (case side4 => exact (Kd.R_reads' HO_6.out).2.1); rintro e w23 ⟨rfl, hb⟩; refine ⟨_, rfl, ?_⟩; have n0_ := Aside0.mk (Kd.R_below (rl HO_6) hb); have n1_ := Aside0.mk (below_step (bl HB) hb); clear HO_6; clear HB; have HO_6 := n0_; have HB := n1_; clear n0_ n1_; (try clear hb); (try clear hb2); (try clear hk); (try clear hi)))
        go_ret
        exact ⟨by first | rfl | (simp [errW_none, errW_some] <;> rfl) | (simp [*, errW_none, errW_some] <;> rfl), by repeat (first | (with_reducible first | exact HB.out | apply below_alloc | apply pw_below_drewN | apply below_drew1) | exact HB.out)⟩
   ·rw [if_neg c3] at H
    have c3b0 : decide (x5_1 < (l1.length : Int)) = false := decide_eq_false c3
    clear c3
    obtain rfl := Option.some.inj H
    go_wp2
    go_ret
    exact ⟨by first | rfl | (simp [errW_none, errW_some] <;> rfl) | (simp [*, errW_none, errW_some] <;> rfl), by repeat (first | (with_reducible first | exact HB.out | apply below_alloc | apply pw_below_drewN | apply below_drew1) | exact HB.out)⟩
end Go.Proofs.Ytdpolfflemocaaa.Re

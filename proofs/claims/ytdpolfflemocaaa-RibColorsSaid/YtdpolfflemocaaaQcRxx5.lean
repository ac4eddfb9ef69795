/- The declarations of Rxx5 that the claim Qc needs. -/
import Derived.Test.YtdpolfflemocaaaQcTkP
import Derived.Test.YtdpolfflemocaaaQcRxx0
import Derived.Test.YtdpolfflemocaaaQcRxx3
import Derived.Test.YtdpolfflemocaaaQcRxx4
namespace Go.Proofs.Ytdpolfflemocaaa.Rx
open Go.RowKit Go.Proofs.Ytdpolfflemocaaa.Own Go.Proofs.YtdpolfflemocaaaW.PrintWords Go.Proofs.YtdpolfflemocaaaW.PrintLast Go.Proofs.YtdpolfflemocaaaW.PrintMore
attribute [local go_sem] max2_int min2_int max_two min_two max_three min_three max_four min_four
set_option linter.unusedVariables false
set_option linter.unusedSimpArgs false
def gamplaw04_lives.f (k : Nat)  : Option (Bool) := (some (([(⟨0, 1⟩ : S52), (⟨1, 2⟩ : S52)] : List (S52)) : List (S52))).bind fun y146 => ((rib_Cliques.f k 3 y146).bind fun bt149 => ((rib_Order.f k 3 y146).bind fun bt153 => (if bt149.2 = 0 then (if (bt149.1.length : Int) = 2 then (if 0 < (bt149.1.length : Int) then ((gampref01_Same.f k (rd_L2 bt149.1 0) (([0, 1] : List Int))).bind fun t161 => (if t161 = true then (if 1 < (bt149.1.length : Int) then ((gampref01_Same.f k (rd_L2 bt149.1 1) (([1, 2] : List Int))).bind fun t166 => (if t166 = true then (if bt153.2 = 0 then ((gampref04_Permutation.f k bt153.1 3).bind fun t167 => (some t167)) else (some false)) else (some false))) else (none)) else (some false))) else (none)) else (some false)) else (some false))))
set_option maxHeartbeats 8000000 in
set_option maxRecDepth 100000 in
theorem gamplaw04_lives.calls (k : Nat)  (r : Bool) (w : World) (h : gamplaw04_lives.f k  = some r) :
  Calls Try.prog 18 #[] w fun e w' => e = .returned (.bool r) ∧ Below w.heap.size w w' := by
 have hu52 := Try.underlying52
 have HB := Aside0.mk (Below.refl w.heap.size w)
 have H : ((some (([(⟨0, 1⟩ : S52), (⟨1, 2⟩ : S52)] : List (S52)) : List (S52))).bind fun y146 => ((rib_Cliques.f k 3 y146).bind fun bt149 => ((rib_Order.f k 3 y146).bind fun bt153 => (if bt149.2 = 0 then (if (bt149.1.length : Int) = 2 then (if 0 < (bt149.1.length : Int) then ((gampref01_Same.f k (rd_L2 bt149.1 0) (([0, 1] : List Int))).bind fun t161 => (if t161 = true then (if 1 < (bt149.1.length : Int) then ((gampref01_Same.f k (rd_L2 bt149.1 1) (([1, 2] : List Int))).bind fun t166 => (if t166 = true then (if bt153.2 = 0 then ((gampref04_Permutation.f k bt153.1 3).bind fun t167 => (some t167)) else (some false)) else (some false))) else (none)) else (some false))) else (none)) else (some false)) else (some false))))) = some r := h
 clear h
 obtain ⟨y146, hy146⟩ : ∃ y_ : List (S52), y_ = (([(⟨0, 1⟩ : S52), (⟨1, 2⟩ : S52)] : List (S52))) := ⟨_, rfl⟩
 replace H : ((rib_Cliques.f k 3 y146).bind fun bt149 => ((rib_Order.f k 3 y146).bind fun bt153 => (if bt149.2 = 0 then (if (bt149.1.length : Int) = 2 then (if 0 < (bt149.1.length : Int) then ((gampref01_Same.f k (rd_L2 bt149.1 0) (([0, 1] : List Int))).bind fun t161 => (if t161 = true then (if 1 < (bt149.1.length : Int) then ((gampref01_Same.f k (rd_L2 bt149.1 1) (([1, 2] : List Int))).bind fun t166 => (if t166 = true then (if bt153.2 = 0 then ((gampref04_Permutation.f k bt153.1 3).bind fun t167 => (some t167)) else (some false)) else (some false))) else (none)) else (some false))) else (none)) else (some false)) else (some false)))) = some r := by first | (rw [hy146]; with_reducible exact H) | (have H2_ := (Option.bind_some _ _).symm.trans H; rw [hy146]; with_reducible exact H2_) | (have H2_ := (Option.bind_some _ _).symm.trans H; with_reducible exact H2_) | with_reducible exact H | (rw [hy146]; exact H) | exact H
 have Ny146 := Aside0.mk hy146
 clear hy146
 replace H := Option.bind_eq_some_iff.mp H
 obtain ⟨⟨t149, t150⟩, A10, H⟩ := H
 replace H : ((rib_Order.f k 3 y146).bind fun bt153 => (if t150 = 0 then (if (t149.length : Int) = 2 then (if 0 < (t149.length : Int) then ((gampref01_Same.f k (rd_L2 t149 0) (([0, 1] : List Int))).bind fun t161 => (if t161 = true then (if 1 < (t149.length : Int) then ((gampref01_Same.f k (rd_L2 t149 1) (([1, 2] : List Int))).bind fun t166 => (if t166 = true then (if bt153.2 = 0 then ((gampref04_Permutation.f k bt153.1 3).bind fun t167 => (some t167)) else (some false)) else (some false))) else (none)) else (some false))) else (none)) else (some false)) else (some false))) = some r := H
 have A1 := Aside0.mk A10
 clear A10
 replace H := Option.bind_eq_some_iff.mp H
 obtain ⟨⟨t153, t154⟩, A20, H⟩ := H
 replace H : (if t150 = 0 then (if (t149.length : Int) = 2 then (if 0 < (t149.length : Int) then ((gampref01_Same.f k (rd_L2 t149 0) (([0, 1] : List Int))).bind fun t161 => (if t161 = true then (if 1 < (t149.length : Int) then ((gampref01_Same.f k (rd_L2 t149 1) (([1, 2] : List Int))).bind fun t166 => (if t166 = true then (if t154 = 0 then ((gampref04_Permutation.f k t153 3).bind fun t167 => (some t167)) else (some false)) else (some false))) else (none)) else (some false))) else (none)) else (some false)) else (some false)) = some r := H
 have A2 := Aside0.mk A20
 clear A20
 by_cases c3 : t150 = 0
 ·rw [if_pos c3] at H
  have c3b0 : (t150 == 0) = true := beq_iff_eq.mpr c3
  have c3b1 : (t150 != 0) = false := bne_eq_false_iff_eq.mpr c3
  clear c3
  by_cases c4 : (t149.length : Int) = 2
  ·rw [if_pos c4] at H
   have c4b0 : ((t149.length : Int) == 2) = true := beq_iff_eq.mpr c4
   have c4b1 : ((t149.length : Int) != 2) = false := bne_eq_false_iff_eq.mpr c4
   clear c4
   by_cases c5 : 0 < (t149.length : Int)
   ·rw [if_pos c5] at H
    have c5b0 : decide (0 < (t149.length : Int)) = true := decide_eq_true c5
    have c5b1 : decide (0 < t149.length) = true := decide_eq_true (by omega)
    clear c5
    obtain ⟨y158, hy158⟩ : ∃ y_ : List Int, y_ = (([0, 1] : List Int)) := ⟨_, rfl⟩
    replace H : ((gampref01_Same.f k (rd_L2 t149 0) y158).bind fun t161 => (if t161 = true then (if 1 < (t149.length : Int) then ((gampref01_Same.f k (rd_L2 t149 1) (([1, 2] : List Int))).bind fun t166 => (if t166 = true then (if t154 = 0 then ((gampref04_Permutation.f k t153 3).bind fun t167 => (some t167)) else (some false)) else (some false))) else (none)) else (some false))) = some r := by first | (rw [hy158]; with_reducible exact H) | (have H2_ := (Option.bind_some _ _).symm.trans H; rw [hy158]; with_reducible exact H2_) | (have H2_ := (Option.bind_some _ _).symm.trans H; with_reducible exact H2_) | with_reducible exact H | (rw [hy158]; exact H) | exact H
    have Ny158 := Aside0.mk hy158
    clear hy158
    replace H := Option.bind_eq_some_iff.mp H
    obtain ⟨t161, A60, H⟩ := H
    replace H : (if t161 = true then (if 1 < (t149.length : Int) then ((gampref01_Same.f k (rd_L2 t149 1) (([1, 2] : List Int))).bind fun t166 => (if t166 = true then (if t154 = 0 then ((gampref04_Permutation.f k t153 3).bind fun t167 => (some t167)) else (some false)) else (some false))) else (none)) else (some false)) = some r := H
    have A6 := Aside0.mk A60
    clear A60
    by_cases c7 : t161 = true
    ·subst c7
     have H1 : (if 1 < (t149.length : Int) then ((gampref01_Same.f k (rd_L2 t149 1) (([1, 2] : List Int))).bind fun t166 => (if t166 = true then (if t154 = 0 then ((gampref04_Permutation.f k t153 3).bind fun t167 => (some t167)) else (some false)) else (some false))) else (none)) = some r := by rw [if_pos rfl] at H; exact H
     clear H
     have H := H1
     clear H1
     by_cases c8 : 1 < (t149.length : Int)
     ·rw [if_pos c8] at H
      have c8b0 : decide (1 < (t149.length : Int)) = true := decide_eq_true c8
      have c8b1 : decide (1 < t149.length) = true := decide_eq_true (by omega)
      clear c8
      obtain ⟨y163, hy163⟩ : ∃ y_ : List Int, y_ = (([1, 2] : List Int)) := ⟨_, rfl⟩
      replace H : ((gampref01_Same.f k (rd_L2 t149 1) y163).bind fun t166 => (if t166 = true then (if t154 = 0 then ((gampref04_Permutation.f k t153 3).bind fun t167 => (some t167)) else (some false)) else (some false))) = some r := by first | (rw [hy163]; with_reducible exact H) | (have H2_ := (Option.bind_some _ _).symm.trans H; rw [hy163]; with_reducible exact H2_) | (have H2_ := (Option.bind_some _ _).symm.trans H; with_reducible exact H2_) | with_reducible exact H | (rw [hy163]; exact H) | exact H
      have Ny163 := Aside0.mk hy163
      clear hy163
      replace H := Option.bind_eq_some_iff.mp H
      obtain ⟨t166, A90, H⟩ := H
      replace H : (if t166 = true then (if t154 = 0 then ((gampref04_Permutation.f k t153 3).bind fun t167 => (some t167)) else (some false)) else (some false)) = some r := H
      have A9 := Aside0.mk A90
      clear A90
      by_cases c10 : t166 = true
      ·subst c10
       have H1 : (if t154 = 0 then ((gampref04_Permutation.f k t153 3).bind fun t167 => (some t167)) else (some false)) = some r := by rw [if_pos rfl] at H; exact H
       clear H
       have H := H1
       clear H1
       by_cases c11 : t154 = 0
       ·rw [if_pos c11] at H
        have c11b0 : (t154 == 0) = true := beq_iff_eq.mpr c11
        have c11b1 : (t154 != 0) = false := bne_eq_false_iff_eq.mpr c11
        clear c11
        replace H := Option.bind_eq_some_iff.mp H
        obtain ⟨t167, A120, H⟩ := H
        replace H : (some t167) = some r := H
        have A12 := Aside0.mk A120
        clear A120
        obtain rfl := Option.some.inj H
        go_enter Try.func18, Try.ntmps18
        go_wp2_with (first | ((with_reducible refine gate_dst (N := 8) rfl ?_); (try (refine gate_guard (by rfl) ?_; dsimp only)); refine Kd.R_lit k52 _ 52 ?hg (N := 8) ?hd (xs := ([(⟨0, 1⟩ : S52), (⟨1, 2⟩ : S52)] : List (S52))) (inner := [.int .i64 0, .int .i64 1, .int .i64 1, .int .i64 2]) (ok := fun _ => True) (okp := fun _ => True) ?hr ?hp (fun _ hk => hk) trivial (Below.refl _ _) (Nat.le_refl _) (by simp) ?_; (case hd => rfl); (case hg => rfl); (case hr => first | (go_simp; done) | (go_simp; rfl)); (case hp => exact (Reps.c2 (show Kd.M k52 _ _ _ (⟨0, 1⟩ : S52) [.int .i64 0, .int .i64 1] from (k52_mkM _ _ _ (⟨0, 1⟩ : S52) )) (Reps.c2 (show Kd.M k52 _ _ _ (⟨1, 2⟩ : S52) [.int .i64 1, .int .i64 2] from (k52_mkM _ _ _ (⟨1, 2⟩ : S52) )) (Reps.none _ _)))); intro v147 w13 ho14 hb hg_ hnew_; clear hg_ hnew_; (first | rw [← Ny146.out] at ho14 | (simp only [Int.reduceToNat] at ho14; rw [← Ny146.out] at ho14)); have n0_ := Aside0.mk (Kd.R_lower ho14 (below_size (bl HB))); have n1_ := Aside0.mk (below_step (bl HB) hb); clear HB; have HO148 := n0_; have HB := n1_; clear n0_ n1_; clear hb ho14; obtain ⟨Ao15, co15, eo15⟩ := Kd.R_slice HO148.out; subst eo15) | ((with_reducible refine gate_callee (f := 16) rfl ?_); refine gL 11 Try.func16 #[.int .i64 3, .slice Ao15 y146.length co15] ?_; (with_reducible refine (rib_Cliques.calls k 3 _ _ y146 t149 t150 _ ?side1 ?side2 A1.out).mono ?_); (case side1 => exact cl ((Kd.R_reads' HO148.out).2.2)); (case side2 => exact (Kd.R_reads' HO148.out).2.1); rintro e w16 ⟨v151, rfl, ho0, hb⟩; refine ⟨_, rfl, ?_⟩; have n0_ := Aside0.mk (Kd.R_below (rl HO148) hb); have n1_ := Aside0.mk (Kd.S_lower ho0 (below_size (bl HB))); have n2_ := Aside0.mk (below_step (bl HB) hb); clear HO148; clear HB; have HO148 := n0_; have HO152 := n1_; have HB := n2_; clear n0_ n1_ n2_; (try clear hb); (try clear hb2); (try clear hk); (try clear hi); (try clear ho0)) | ((with_reducible refine gate_callee (f := 24) rfl ?_); refine gL 16 Try.func24 #[.int .i64 3, .slice Ao15 y146.length co15] ?_; (with_reducible refine (rib_Order.calls k 3 _ _ y146 t153 t154 _ ?side1 ?side2 A2.out).mono ?_); (case side1 => exact cl ((Kd.R_reads' HO148.out).2.2)); (case side2 => exact (Kd.R_reads' HO148.out).2.1); rintro e w17 ⟨v155, rfl, ho0, hb⟩; refine ⟨_, rfl, ?_⟩; have n0_ := Aside0.mk (Kd.R_below (rl HO148) hb); have n1_ := Aside0.mk (Kd.S_elder' (by (with_reducible repeat (first | apply Kd.S_alloc | apply Kd.S_drewN | apply Kd.S_drew)); exact HO152.out) (Kd.R_base ho0) hb); have n2_ := Aside0.mk (Kd.R_lower ho0 (below_size (bl HB))); have n3_ := Aside0.mk (below_step (bl HB) hb); clear HO148; clear HO152; clear HB; have HO148 := n0_; have HO152 := n1_; have HO156 := n2_; have HB := n3_; clear n0_ n1_ n2_ n3_; (try clear hb); (try clear hb2); (try clear hk); (try clear hi); (try clear ho0); obtain ⟨Ao18, co18, eo18⟩ := Kd.S_slice HO152.out; subst eo18; have p157 : 0 ≤ (0 : Int) := (by omega); have q157 : 0 < (t149.length : Int) := ofd; obtain ⟨ad157, A157_0, c157_0, e157, hx157_0, hl157_0, hi157_0⟩ := at_L2 (Kd.S_reads' HO152.out).2.2 0 p157 q157; cases e157; obtain ⟨ce157, hce157, hMe157, hcc157⟩ := Kd.S_get HO152.out [] 0 p157 (by first | exact q157 | exact ofd | (have e_ := (Kd.S_reads' HO152.out).1; omega)); obtain ⟨ve157_0, rfl, ge157_0⟩ := hMe157; have hv157_0 := hcc157 0 _ rfl; rw [Nat.add_zero, show ((Kd.slice 3 (Kd.int .i64))).sz = 1 from rfl, Nat.mul_one] at hv157_0; replace hv157_0 := Option.some.inj (hv157_0.symm.trans hx157_0); rw [hv157_0] at ge157_0; have HL157_0 := Aside0.mk (show Kd.R (Kd.int .i64) 3 _ _ _ _ (rd_L2 t149 0) from ge157_0); clear hv157_0 ge157_0; clear hcc157 hce157; have qi157 : (0 < t149.length) = True := eq_true (by omega); (try rw [show ((0 : Int)).toNat = 0 from rfl] at hx157_0); (try rw [Addr.add_zero'] at hx157_0); have HR157_0 := Aside0.mk hi157_0; have HC157_0 := Aside0.mk hl157_0; clear hi157_0 hl157_0; replace p157 := eq_true p157; replace q157 := eq_true q157) | ((with_reducible refine gate_dst (N := 30) rfl ?_); (try (refine gate_guard (by rfl) ?_; dsimp only)); refine Kd.R_lit (Kd.int .i64) _ 3 ?hg (N := 30) ?hd (xs := ([0, 1] : List Int)) (inner := [.int .i64 0, .int .i64 1]) (ok := fun _ => True) (okp := fun _ => True) ?hr ?hp (fun _ hk => hk) trivial (Below.refl _ _) (Nat.le_refl _) (by simp) ?_; (case hd => rfl); (case hg => rfl); (case hr => first | (go_simp; done) | (go_simp; rfl)); (case hp => exact (Reps.one (show Kd.M (Kd.int .i64) _ _ _ 0 [.int .i64 0] from rfl) (Reps.one (show Kd.M (Kd.int .i64) _ _ _ 1 [.int .i64 1] from rfl) (Reps.none _ _)))); intro v159 w19 ho20 hb hg_ hnew_; clear hg_ hnew_; (first | rw [← Ny158.out] at ho20 | (simp only [Int.reduceToNat] at ho20; rw [← Ny158.out] at ho20)); have n0_ := Aside0.mk (Kd.R_below (rl HO148) hb); have n1_ := Aside0.mk (Kd.S_elder' (by (with_reducible repeat (first | apply Kd.S_alloc | apply Kd.S_drewN | apply Kd.S_drew)); exact HO152.out) (Kd.R_base ho20) hb); have n2_ := Aside0.mk (Kd.R_elder' (rl HO156) (Kd.R_base ho20) hb); have n3_ := Aside0.mk (Kd.R_elder' (rl HL157_0) (Kd.R_base ho20) hb); have n4_ := Aside0.mk (Kd.R_lower (Kd.R_new' (Kd.R_new' ho20 (Kd.R_lt (rl HO156))) (Kd.R_lt (rl HL157_0))) (below_size (bl HB))); have n5_ := Aside0.mk (Kd.C_below (cl HR157_0.out) hb); have n6_ := Aside0.mk (below_step (bl HB) hb); clear HO148; clear HO152; clear HO156; clear HL157_0; clear HR157_0; clear HB; have HO148 := n0_; have HO152 := n1_; have HO156 := n2_; have HL157_0 := n3_; have HO160 := n4_; have HR157_0 := n5_; have HB := n6_; clear n0_ n1_ n2_ n3_ n4_ n5_ n6_; clear hb ho20; obtain ⟨Ao21, co21, eo21⟩ := Kd.R_slice HO160.out; subst eo21) | (go_at_call 20; (with_reducible refine (gampref01_Same.calls k _ _ (rd_L2 t149 0) _ _ y158 true _ ?side1 ?side2 ?side3 ?side4 A6.out).mono ?_); (case side1 => exact cl (HR157_0.out)); (case side2 => exact HC157_0.out); (case side3 => exact cl ((Kd.R_reads' HO160.out).2.2)); (case side4 => exact (Kd.R_reads' HO160.out).2.1); rintro e w' ⟨rfl, ⟨nd, rfl⟩⟩; have p162 : 0 ≤ (1 : Int) := (by omega); have q162 : 1 < (t149.length : Int) := ofd; obtain ⟨ad162, A162_0, c162_0, e162, hx162_0, hl162_0, hi162_0⟩ := at_L2 (Kd.S_reads' HO152.out).2.2 1 p162 q162; obtain rfl : ad157 = ad162 := (by injection e162); obtain ⟨ce162, hce162, hMe162, hcc162⟩ := Kd.S_get HO152.out [] 1 p162 (by first | exact q162 | exact ofd | (have e_ := (Kd.S_reads' HO152.out).1; omega)); obtain ⟨ve162_0, rfl, ge162_0⟩ := hMe162; have hv162_0 := hcc162 0 _ rfl; rw [Nat.add_zero, show ((Kd.slice 3 (Kd.int .i64))).sz = 1 from rfl, Nat.mul_one] at hv162_0; replace hv162_0 := Option.some.inj (hv162_0.symm.trans hx162_0); rw [hv162_0] at ge162_0; have HL162_0 := Aside0.mk (show Kd.R (Kd.int .i64) 3 _ _ _ _ (rd_L2 t149 1) from ge162_0); clear hv162_0 ge162_0; clear hcc162 hce162; (try simp only [show (1 : Int).toNat = 1 from rfl, Nat.reduceMul, Nat.reduceEqDiff, Go.Addr.add, ↓reduceIte] at hx162_0); have qi162 : (1 < t149.length) = True := eq_true (by omega); (try rw [show ((1 : Int)).toNat = 1 from rfl] at hx162_0); have HR162_0 := Aside0.mk hi162_0; have HC162_0 := Aside0.mk hl162_0; clear hi162_0 hl162_0; replace p162 := eq_true p162; replace q162 := eq_true q162) | ((with_reducible refine gate_dst (N := 37) rfl ?_); (try (refine gate_guard (by rfl) ?_; dsimp only)); refine Kd.R_lit (Kd.int .i64) _ 3 ?hg (N := 37) ?hd (xs := ([1, 2] : List Int)) (inner := [.int .i64 1, .int .i64 2]) (ok := fun _ => True) (okp := fun _ => True) ?hr ?hp (fun _ hk => hk) trivial (Below.refl _ _) (Nat.le_refl _) (by simp) ?_; (case hd => rfl); (case hg => rfl); (case hr => first | (go_simp; done) | (go_simp; rfl)); (case hp => exact (Reps.one (show Kd.M (Kd.int .i64) _ _ _ 1 [.int .i64 1] from rfl) (Reps.one (show Kd.M (Kd.int .i64) _ _ _ 2 [.int .i64 2] from rfl) (Reps.none _ _)))); intro v164 w22 ho23 hb hg_ hnew_; clear hg_ hnew_; (first | rw [← Ny163.out] at ho23 | (simp only [Int.reduceToNat] at ho23; rw [← Ny163.out] at ho23)); have n0_ := Aside0.mk (Kd.R_below (rl HO148) hb); have n1_ := Aside0.mk (Kd.S_elder' (by (with_reducible repeat (first | apply Kd.S_alloc | apply Kd.S_drewN | apply Kd.S_drew)); exact HO152.out) (Kd.R_base ho23) hb); have n2_ := Aside0.mk (Kd.R_elder' (rl HO156) (Kd.R_base ho23) hb); have n3_ := Aside0.mk (Kd.R_elder' (rl HL157_0) (Kd.R_base ho23) hb); have n4_ := Aside0.mk (Kd.R_elder' (rl HO160) (Kd.R_base ho23) hb); have n5_ := Aside0.mk (Kd.R_elder' (rl HL162_0) (Kd.R_base ho23) hb); have n6_ := Aside0.mk (Kd.R_lower (Kd.R_new' (Kd.R_new' (Kd.R_new' (Kd.R_new' ho23 (Kd.R_lt (rl HO156))) (Kd.R_lt (rl HL157_0))) (Kd.R_lt (rl HO160))) (Kd.R_lt (rl HL162_0))) (below_size (bl HB))); have n7_ := Aside0.mk (Kd.C_below (cl HR157_0.out) hb); have n8_ := Aside0.mk (Kd.C_below (cl HR162_0.out) hb); have n9_ := Aside0.mk (below_step (bl HB) hb); clear HO148; clear HO152; clear HO156; clear HL157_0; clear HO160; clear HL162_0; clear HR157_0; clear HR162_0; clear HB; have HO148 := n0_; have HO152 := n1_; have HO156 := n2_; have HL157_0 := n3_; have HO160 := n4_; have HL162_0 := n5_; have HO165 := n6_; have HR157_0 := n7_; have HR162_0 := n8_; have HB := n9_; clear n0_ n1_ n2_ n3_ n4_ n5_ n6_ n7_ n8_ n9_; clear hb ho23; obtain ⟨Ao24, co24, eo24⟩ := Kd.R_slice HO165.out; subst eo24) | (go_at_call 20; (with_reducible refine (gampref01_Same.calls k _ _ (rd_L2 t149 1) _ _ y163 true _ ?side1 ?side2 ?side3 ?side4 A9.out).mono ?_); (case side1 => exact cl (HR162_0.out)); (case side2 => exact HC162_0.out); (case side3 => exact cl ((Kd.R_reads' HO165.out).2.2)); (case side4 => exact (Kd.R_reads' HO165.out).2.1); rintro e w' ⟨rfl, ⟨nd, rfl⟩⟩; obtain ⟨Ao25, co25, eo25⟩ := Kd.R_slice HO156.out; subst eo25) | (go_at_call 27; (with_reducible refine (gampref04_Permutation.calls k _ _ t153 3 t167 _ ?side1 ?side2 A12.out).mono ?_); (case side1 => exact cl ((Kd.R_reads' HO156.out).2.2)); (case side2 => exact (Kd.R_reads' HO156.out).2.1); rintro e w' ⟨rfl, ⟨nd, rfl⟩⟩))
        go_ret
        exact ⟨by first | rfl | (simp [errW_none, errW_some] <;> rfl) | (simp [*, errW_none, errW_some] <;> rfl), by repeat (first | (with_reducible first | exact HB.out | apply below_alloc | apply pw_below_drewN | apply below_drew1) | exact HB.out)⟩
       ·rw [if_neg c11] at H
        have c11b0 : (t154 == 0) = false := beq_eq_false_iff_ne.mpr c11
        have c11b1 : (t154 != 0) = true := bne_iff_ne.mpr c11
        obtain rfl := Option.some.inj H
        go_enter Try.func18, Try.ntmps18
        go_wp2_with (first | ((with_reducible refine gate_dst (N := 8) rfl ?_); (try (refine gate_guard (by rfl) ?_; dsimp only)); refine Kd.R_lit k52 _ 52 ?hg (N := 8) ?hd (xs := ([(⟨0, 1⟩ : S52), (⟨1, 2⟩ : S52)] : List (S52))) (inner := [.int .i64 0, .int .i64 1, .int .i64 1, .int .i64 2]) (ok := fun _ => True) (okp := fun _ => True) ?hr ?hp (fun _ hk => hk) trivial (Below.refl _ _) (Nat.le_refl _) (by simp) ?_; (case hd => rfl); (case hg => rfl); (case hr => first | (go_simp; done) | (go_simp; rfl)); (case hp => exact (Reps.c2 (show Kd.M k52 _ _ _ (⟨0, 1⟩ : S52) [.int .i64 0, .int .i64 1] from (k52_mkM _ _ _ (⟨0, 1⟩ : S52) )) (Reps.c2 (show Kd.M k52 _ _ _ (⟨1, 2⟩ : S52) [.int .i64 1, .int .i64 2] from (k52_mkM _ _ _ (⟨1, 2⟩ : S52) )) (Reps.none _ _)))); intro v147 w26 ho27 hb hg_ hnew_; clear hg_ hnew_; (first | rw [← Ny146.out] at ho27 | (simp only [Int.reduceToNat] at ho27; rw [← Ny146.out] at ho27)); have n0_ := Aside0.mk (Kd.R_lower ho27 (below_size (bl HB))); have n1_ := Aside0.mk (below_step (bl HB) hb); clear HB; have HO148 := n0_; have HB := n1_; clear n0_ n1_; clear hb ho27; obtain ⟨Ao28, co28, eo28⟩ := Kd.R_slice HO148.out; subst eo28) | ((with_reducible refine gate_callee (f := 16) rfl ?_); refine gL 11 Try.func16 #[.int .i64 3, .slice Ao28 y146.length co28] ?_; (with_reducible refine (rib_Cliques.calls k 3 _ _ y146 t149 t150 _ ?side1 ?side2 A1.out).mono ?_); (case side1 => exact cl ((Kd.R_reads' HO148.out).2.2)); (case side2 => exact (Kd.R_reads' HO148.out).2.1); rintro e w29 ⟨v151, rfl, ho0, hb⟩; refine ⟨_, rfl, ?_⟩; have n0_ := Aside0.mk (Kd.R_below (rl HO148) hb); have n1_ := Aside0.mk (Kd.S_lower ho0 (below_size (bl HB))); have n2_ := Aside0.mk (below_step (bl HB) hb); clear HO148; clear HB; have HO148 := n0_; have HO152 := n1_; have HB := n2_; clear n0_ n1_ n2_; (try clear hb); (try clear hb2); (try clear hk); (try clear hi); (try clear ho0)) | ((with_reducible refine gate_callee (f := 24) rfl ?_); refine gL 16 Try.func24 #[.int .i64 3, .slice Ao28 y146.length co28] ?_; (with_reducible refine (rib_Order.calls k 3 _ _ y146 t153 t154 _ ?side1 ?side2 A2.out).mono ?_); (case side1 => exact cl ((Kd.R_reads' HO148.out).2.2)); (case side2 => exact (Kd.R_reads' HO148.out).2.1); rintro e w30 ⟨v155, rfl, ho0, hb⟩; refine ⟨_, rfl, ?_⟩; have n0_ := Aside0.mk (Kd.R_below (rl HO148) hb); have n1_ := Aside0.mk (Kd.S_elder' (by (with_reducible repeat (first | apply Kd.S_alloc | apply Kd.S_drewN | apply Kd.S_drew)); exact HO152.out) (Kd.R_base ho0) hb); have n2_ := Aside0.mk (Kd.R_lower ho0 (below_size (bl HB))); have n3_ := Aside0.mk (below_step (bl HB) hb); clear HO148; clear HO152; clear HB; have HO148 := n0_; have HO152 := n1_; have HO156 := n2_; have HB := n3_; clear n0_ n1_ n2_ n3_; (try clear hb); (try clear hb2); (try clear hk); (try clear hi); (try clear ho0); obtain ⟨Ao31, co31, eo31⟩ := Kd.S_slice HO152.out; subst eo31; have p157 : 0 ≤ (0 : Int) := (by omega); have q157 : 0 < (t149.length : Int) := ofd; obtain ⟨ad157, A157_0, c157_0, e157, hx157_0, hl157_0, hi157_0⟩ := at_L2 (Kd.S_reads' HO152.out).2.2 0 p157 q157; cases e157; obtain ⟨ce157, hce157, hMe157, hcc157⟩ := Kd.S_get HO152.out [] 0 p157 (by first | exact q157 | exact ofd | (have e_ := (Kd.S_reads' HO152.out).1; omega)); obtain ⟨ve157_0, rfl, ge157_0⟩ := hMe157; have hv157_0 := hcc157 0 _ rfl; rw [Nat.add_zero, show ((Kd.slice 3 (Kd.int .i64))).sz = 1 from rfl, Nat.mul_one] at hv157_0; replace hv157_0 := Option.some.inj (hv157_0.symm.trans hx157_0); rw [hv157_0] at ge157_0; have HL157_0 := Aside0.mk (show Kd.R (Kd.int .i64) 3 _ _ _ _ (rd_L2 t149 0) from ge157_0); clear hv157_0 ge157_0; clear hcc157 hce157; have qi157 : (0 < t149.length) = True := eq_true (by omega); (try rw [show ((0 : Int)).toNat = 0 from rfl] at hx157_0); (try rw [Addr.add_zero'] at hx157_0); have HR157_0 := Aside0.mk hi157_0; have HC157_0 := Aside0.mk hl157_0; clear hi157_0 hl157_0; replace p157 := eq_true p157; replace q157 := eq_true q157) | ((with_reducible refine gate_dst (N := 30) rfl ?_); (try (refine gate_guard (by rfl) ?_; dsimp only)); refine Kd.R_lit (Kd.int .i64) _ 3 ?hg (N := 30) ?hd (xs := ([0, 1] : List Int)) (inner := [.int .i64 0, .int .i64 1]) (ok := fun _ => True) (okp := fun _ => True) ?hr ?hp (fun _ hk => hk) trivial (Below.refl _ _) (Nat.le_refl _) (by simp) ?_; (case hd => rfl); (case hg => rfl); (case hr => first | (go_simp; done) | (go_simp; rfl)); (case hp => exact (Reps.one (show Kd.M (Kd.int .i64) _ _ _ 0 [.int .i64 0] from rfl) (Reps.one (show Kd.M (Kd.int .i64) _ _ _ 1 [.int .i64 1] from rfl) (Reps.none _ _)))); intro v159 w32 ho33 hb hg_ hnew_; clear hg_ hnew_; (first | rw [← Ny158.out] at ho33 | (simp only [Int.reduceToNat] at ho33; rw [← Ny158.out] at ho33)); have n0_ := Aside0.mk (Kd.R_below (rl HO148) hb); have n1_ := Aside0.mk (Kd.S_elder' (by (with_reducible repeat (first | apply Kd.S_alloc | apply Kd.S_drewN | apply Kd.S_drew)); exact HO152.out) (Kd.R_base ho33) hb); have n2_ := Aside0.mk (Kd.R_elder' (rl HO156) (Kd.R_base ho33) hb); have n3_ := Aside0.mk (Kd.R_elder' (rl HL157_0) (Kd.R_base ho33) hb); have n4_ := Aside0.mk (Kd.R_lower (Kd.R_new' (Kd.R_new' ho33 (Kd.R_lt (rl HO156))) (Kd.R_lt (rl HL157_0))) (below_size (bl HB))); have n5_ := Aside0.mk (Kd.C_below (cl HR157_0.out) hb); have n6_ := Aside0.mk (below_step (bl HB) hb); clear HO148; clear HO152; clear HO156; clear HL157_0; clear HR157_0; clear HB; have HO148 := n0_; have HO152 := n1_; have HO156 := n2_; have HL157_0 := n3_; have HO160 := n4_; have HR157_0 := n5_; have HB := n6_; clear n0_ n1_ n2_ n3_ n4_ n5_ n6_; clear hb ho33; obtain ⟨Ao34, co34, eo34⟩ := Kd.R_slice HO160.out; subst eo34) | (go_at_call 20; (with_reducible refine (gampref01_Same.calls k _ _ (rd_L2 t149 0) _ _ y158 true _ ?side1 ?side2 ?side3 ?side4 A6.out).mono ?_); (case side1 => exact cl (HR157_0.out)); (case side2 => exact HC157_0.out); (case side3 => exact cl ((Kd.R_reads' HO160.out).2.2)); (case side4 => exact (Kd.R_reads' HO160.out).2.1); rintro e w' ⟨rfl, ⟨nd, rfl⟩⟩; have p162 : 0 ≤ (1 : Int) := (by omega); have q162 : 1 < (t149.length : Int) := ofd; obtain ⟨ad162, A162_0, c162_0, e162, hx162_0, hl162_0, hi162_0⟩ := at_L2 (Kd.S_reads' HO152.out).2.2 1 p162 q162; obtain rfl : ad157 = ad162 := (by injection e162); obtain ⟨ce162, hce162, hMe162, hcc162⟩ := Kd.S_get HO152.out [] 1 p162 (by first | exact q162 | exact ofd | (have e_ := (Kd.S_reads' HO152.out).1; omega)); obtain ⟨ve162_0, rfl, ge162_0⟩ := hMe162; have hv162_0 := hcc162 0 _ rfl; rw [Nat.add_zero, show ((Kd.slice 3 (Kd.int .i64))).sz = 1 from rfl, Nat.mul_one] at hv162_0; replace hv162_0 := Option.some.inj (hv162_0.symm.trans hx162_0); rw [hv162_0] at ge162_0; have HL162_0 := Aside0.mk (show Kd.R (Kd.int .i64) 3 _ _ _ _ (rd_L2 t149 1) from ge162_0); clear hv162_0 ge162_0; clear hcc162 hce162; (try simp only [show (1 : Int).toNat = 1 from rfl, Nat.reduceMul, Nat.reduceEqDiff, Go.Addr.add, ↓reduceIte] at hx162_0); have qi162 : (1 < t149.length) = True := eq_true (by omega); (try rw [show ((1 : Int)).toNat = 1 from rfl] at hx162_0); have HR162_0 := Aside0.mk hi162_0; have HC162_0 := Aside0.mk hl162_0; clear hi162_0 hl162_0; replace p162 := eq_true p162; replace q162 := eq_true q162) | ((with_reducible refine gate_dst (N := 37) rfl ?_); (try (refine gate_guard (by rfl) ?_; dsimp only)); refine Kd.R_lit (Kd.int .i64) _ 3 ?hg (N := 37) ?hd (xs := ([1, 2] : List Int)) (inner := [.int .i64 1, .int .i64 2]) (ok := fun _ => True) (okp := fun _ => True) ?hr ?hp (fun _ hk => hk) trivial (Below.refl _ _) (Nat.le_refl _) (by simp) ?_; (case hd => rfl); (case hg => rfl); (case hr => first | (go_simp; done) | (go_simp; rfl)); (case hp => exact (Reps.one (show Kd.M (Kd.int .i64) _ _ _ 1 [.int .i64 1] from rfl) (Reps.one (show Kd.M (Kd.int .i64) _ _ _ 2 [.int .i64 2] from rfl) (Reps.none _ _)))); intro v164 w35 ho36 hb hg_ hnew_; clear hg_ hnew_; (first | rw [← Ny163.out] at ho36 | (simp only [Int.reduceToNat] at ho36; rw [← Ny163.out] at ho36)); have n0_ := Aside0.mk (Kd.R_below (rl HO148) hb); have n1_ := Aside0.mk (Kd.S_elder' (by (with_reducible repeat (first | apply Kd.S_alloc | apply Kd.S_drewN | apply Kd.S_drew)); exact HO152.out) (Kd.R_base ho36) hb); have n2_ := Aside0.mk (Kd.R_elder' (rl HO156) (Kd.R_base ho36) hb); have n3_ := Aside0.mk (Kd.R_elder' (rl HL157_0) (Kd.R_base ho36) hb); have n4_ := Aside0.mk (Kd.R_elder' (rl HO160) (Kd.R_base ho36) hb); have n5_ := Aside0.mk (Kd.R_elder' (rl HL162_0) (Kd.R_base ho36) hb); have n6_ := Aside0.mk (Kd.R_lower (Kd.R_new' (Kd.R_new' (Kd.R_new' (Kd.R_new' ho36 (Kd.R_lt (rl HO156))) (Kd.R_lt (rl HL157_0))) (Kd.R_lt (rl HO160))) (Kd.R_lt (rl HL162_0))) (below_size (bl HB))); have n7_ := Aside0.mk (Kd.C_below (cl HR157_0.out) hb); have n8_ := Aside0.mk (Kd.C_below (cl HR162_0.out) hb); have n9_ := Aside0.mk (below_step (bl HB) hb); clear HO148; clear HO152; clear HO156; clear HL157_0; clear HO160; clear HL162_0; clear HR157_0; clear HR162_0; clear HB; have HO148 := n0_; have HO152 := n1_; have HO156 := n2_; have HL157_0 := n3_; have HO160 := n4_; have HL162_0 := n5_; have HO165 := n6_; have HR157_0 := n7_; have HR162_0 := n8_; have HB := n9_; clear n0_ n1_ n2_ n3_ n4_ n5_ n6_ n7_ n8_ n9_; clear hb ho36; obtain ⟨Ao37, co37, eo37⟩ := Kd.R_slice HO165.out; subst eo37) | (go_at_call 20; (with_reducible refine (gampref01_Same.calls k _ _ (rd_L2 t149 1) _ _ y163 true _ ?side1 ?side2 ?side3 ?side4 A9.out).mono ?_); (case side1 => exact cl (HR162_0.out)); (case side2 => exact HC162_0.out); (case side3 => exact cl ((Kd.R_reads' HO165.out).2.2)); (case side4 => exact (Kd.R_reads' HO165.out).2.1); rintro e w' ⟨rfl, ⟨nd, rfl⟩⟩))
        go_ret
        exact ⟨by first | rfl | (simp [errW_none, errW_some] <;> rfl) | (simp [*, errW_none, errW_some] <;> rfl), by repeat (first | (with_reducible first | exact HB.out | apply below_alloc | apply pw_below_drewN | apply below_drew1) | exact HB.out)⟩
      ·replace c10 := Bool.eq_false_iff.mpr c10
       subst c10
       have H1 : (some false) = some r := by rw [if_neg (show ¬ (false = true) by decide)] at H; exact H
       clear H
       have H := H1
       clear H1
       obtain rfl := Option.some.inj H
       go_enter Try.func18, Try.ntmps18
       go_wp2_with (first | ((with_reducible refine gate_dst (N := 8) rfl ?_); (try (refine gate_guard (by rfl) ?_; dsimp only)); refine Kd.R_lit k52 _ 52 ?hg (N := 8) ?hd (xs := ([(⟨0, 1⟩ : S52), (⟨1, 2⟩ : S52)] : List (S52))) (inner := [.int .i64 0, .int .i64 1, .int .i64 1, .int .i64 2]) (ok := fun _ => True) (okp := fun _ => True) ?hr ?hp (fun _ hk => hk) trivial (Below.refl _ _) (Nat.le_refl _) (by simp) ?_; (case hd => rfl); (case hg => rfl); (case hr => first | (go_simp; done) | (go_simp; rfl)); (case hp => exact (Reps.c2 (show Kd.M k52 _ _ _ (⟨0, 1⟩ : S52) [.int .i64 0, .int .i64 1] from (k52_mkM _ _ _ (⟨0, 1⟩ : S52) )) (Reps.c2 (show Kd.M k52 _ _ _ (⟨1, 2⟩ : S52) [.int .i64 1, .int .i64 2] from (k52_mkM _ _ _ (⟨1, 2⟩ : S52) )) (Reps.none _ _)))); intro v147 w38 ho39 hb hg_ hnew_; clear hg_ hnew_; (first | rw [← Ny146.out] at ho39 | (simp only [Int.reduceToNat] at ho39; rw [← Ny146.out] at ho39)); have n0_ := Aside0.mk (Kd.R_lower ho39 (below_size (bl HB))); have n1_ := Aside0.mk (below_step (bl HB) hb); clear HB; have HO148 := n0_; have HB := n1_; clear n0_ n1_; clear hb ho39; obtain ⟨Ao40, co40, eo40⟩ := Kd.R_slice HO148.out; subst eo40) | ((with_reducible refine gate_callee (f := 16) rfl ?_); refine gL 11 Try.func16 #[.int .i64 3, .slice Ao40 y146.length co40] ?_; (with_reducible refine (rib_Cliques.calls k 3 _ _ y146 t149 t150 _ ?side1 ?side2 A1.out).mono ?_); (case side1 => exact cl ((Kd.R_reads' HO148.out).2.2)); (case side2 => exact (Kd.R_reads' HO148.out).2.1); rintro e w41 ⟨v151, rfl, ho0, hb⟩; refine ⟨_, rfl, ?_⟩; have n0_ := Aside0.mk (Kd.R_below (rl HO148) hb); have n1_ := Aside0.mk (Kd.S_lower ho0 (below_size (bl HB))); have n2_ := Aside0.mk (below_step (bl HB) hb); clear HO148; clear HB; have HO148 := n0_; have HO152 := n1_; have HB := n2_; clear n0_ n1_ n2_; (try clear hb); (try clear hb2); (try clear hk); (try clear hi); (try clear ho0)) | ((with_reducible refine gate_callee (f := 24) rfl ?_); refine gL 16 Try.func24 #[.int .i64 3, .slice Ao40 y146.length co40] ?_; (with_reducible refine (rib_Order.calls k 3 _ _ y146 t153 t154 _ ?side1 ?side2 A2.out).mono ?_); (case side1 => exact cl ((Kd.R_reads' HO148.out).2.2)); (case side2 => exact (Kd.R_reads' HO148.out).2.1); rintro e w42 ⟨v155, rfl, ho0, hb⟩; refine ⟨_, rfl, ?_⟩; have n0_ := Aside0.mk (Kd.R_below (rl HO148) hb); have n1_ := Aside0.mk (Kd.S_elder' (by (with_reducible repeat (first | apply Kd.S_alloc | apply Kd.S_drewN | apply Kd.S_drew)); exact HO152.out) (Kd.R_base ho0) hb); have n2_ := Aside0.mk (Kd.R_lower ho0 (below_size (bl HB))); have n3_ := Aside0.mk (below_step (bl HB) hb); clear HO148; clear HO152; clear HB; have HO148 := n0_; have HO152 := n1_; have HO156 := n2_; have HB := n3_; clear n0_ n1_ n2_ n3_; (try clear hb); (try clear hb2); (try clear hk); (try clear hi); (try clear ho0); obtain ⟨Ao43, co43, eo43⟩ := Kd.S_slice HO152.out; subst eo43; have p157 : 0 ≤ (0 : Int) := (by omega); have q157 : 0 < (t149.length : Int) := ofd; obtain ⟨ad157, A157_0, c157_0, e157, hx157_0, hl157_0, hi157_0⟩ := at_L2 (Kd.S_reads' HO152.out).2.2 0 p157 q157; cases e157; obtain ⟨ce157, hce157, hMe157, hcc157⟩ := Kd.S_get HO152.out [] 0 p157 (by first | exact q157 | exact ofd | (have e_ := (Kd.S_reads' HO152.out).1; omega)); obtain ⟨ve157_0, rfl, ge157_0⟩ := hMe157; have hv157_0 := hcc157 0 _ rfl; rw [Nat.add_zero, show ((Kd.slice 3 (Kd.int .i64))).sz = 1 from rfl, Nat.mul_one] at hv157_0; replace hv157_0 := Option.some.inj (hv157_0.symm.trans hx157_0); rw [hv157_0] at ge157_0; have HL157_0 := Aside0.mk (show Kd.R (Kd.int .i64) 3 _ _ _ _ (rd_L2 t149 0) from ge157_0); clear hv157_0 ge157_0; clear hcc157 hce157; have qi157 : (0 < t149.length) = True := eq_true (by omega); (try rw [show ((0 : Int)).toNat = 0 from rfl] at hx157_0); (try rw [Addr.add_zero'] at hx157_0); have HR157_0 := Aside0.mk hi157_0; have HC157_0 := Aside0.mk hl157_0; clear hi157_0 hl157_0; replace p157 := eq_true p157; replace q157 := eq_true q157) | ((with_reducible refine gate_dst (N := 30) rfl ?_); (try (refine gate_guard (by rfl) ?_; dsimp only)); refine Kd.R_lit (Kd.int .i64) _ 3 ?hg (N := 30) ?hd (xs := ([0, 1] : List Int)) (inner := [.int .i64 0, .int .i64 1]) (ok := fun _ => True) (okp := fun _ => True) ?hr ?hp (fun _ hk => hk) trivial (Below.refl _ _) (Nat.le_refl _) (by simp) ?_; (case hd => rfl); (case hg => rfl); (case hr => first | (go_simp; done) | (go_simp; rfl)); (case hp => exact (Reps.one (show Kd.M (Kd.int .i64) _ _ _ 0 [.int .i64 0] from rfl) (Reps.one (show Kd.M (Kd.int .i64) _ _ _ 1 [.int .i64 1] from rfl) (Reps.none _ _)))); intro v159 w44 ho45 hb hg_ hnew_; clear hg_ hnew_; (first | rw [← Ny158.out] at ho45 | (simp only [Int.reduceToNat] at ho45; rw [← Ny158.out] at ho45)); have n0_ := Aside0.mk (Kd.R_below (rl HO148) hb); have n1_ := Aside0.mk (Kd.S_elder' (by (with_reducible repeat (first | apply Kd.S_alloc | apply Kd.S_drewN | apply Kd.S_drew)); exact HO152.out) (Kd.R_base ho45) hb); have n2_ := Aside0.mk (Kd.R_elder' (rl HO156) (Kd.R_base ho45) hb); have n3_ := Aside0.mk (Kd.R_elder' (rl HL157_0) (Kd.R_base ho45) hb); have n4_ := Aside0.mk (Kd.R_lower (Kd.R_new' (Kd.R_new' ho45 (Kd.R_lt (rl HO156))) (Kd.R_lt (rl HL157_0))) (below_size (bl HB))); have n5_ := Aside0.mk (Kd.C_below (cl HR157_0.out) hb); have n6_ := Aside0.mk (below_step (bl HB) hb); clear HO148; clear HO152; clear HO156; clear HL157_0; clear HR157_0; clear HB; have HO148 := n0_; have HO152 := n1_; have HO156 := n2_; have HL157_0 := n3_; have HO160 := n4_; have HR157_0 := n5_; have HB := n6_; clear n0_ n1_ n2_ n3_ n4_ n5_ n6_; clear hb ho45; obtain ⟨Ao46, co46, eo46⟩ := Kd.R_slice HO160.out; subst eo46) | (go_at_call 20; (with_reducible refine (gampref01_Same.calls k _ _ (rd_L2 t149 0) _ _ y158 true _ ?side1 ?side2 ?side3 ?side4 A6.out).mono ?_); (case side1 => exact cl (HR157_0.out)); (case side2 => exact HC157_0.out); (case side3 => exact cl ((Kd.R_reads' HO160.out).2.2)); (case side4 => exact (Kd.R_reads' HO160.out).2.1); rintro e w' ⟨rfl, ⟨nd, rfl⟩⟩; have p162 : 0 ≤ (1 : Int) := (by omega); have q162 : 1 < (t149.length : Int) := ofd; obtain ⟨ad162, A162_0, c162_0, e162, hx162_0, hl162_0, hi162_0⟩ := at_L2 (Kd.S_reads' HO152.out).2.2 1 p162 q162; obtain rfl : ad157 = ad162 := (by injection e162); obtain ⟨ce162, hce162, hMe162, hcc162⟩ := Kd.S_get HO152.out [] 1 p162 (by first | exact q162 | exact ofd | (have e_ := (Kd.S_reads' HO152.out).1; omega)); obtain ⟨ve162_0, rfl, ge162_0⟩ := hMe162; have hv162_0 := hcc162 0 _ rfl; rw [Nat.add_zero, show ((Kd.slice 3 (Kd.int .i64))).sz = 1 from rfl, Nat.mul_one] at hv162_0; replace hv162_0 := Option.some.inj (hv162_0.symm.trans hx162_0); rw [hv162_0] at ge162_0; have HL162_0 := Aside0.mk (show Kd.R (Kd.int .i64) 3 _ _ _ _ (rd_L2 t149 1) from ge162_0); clear hv162_0 ge162_0; clear hcc162 hce162; (try simp only [show (1 : Int).toNat = 1 from rfl, Nat.reduceMul, Nat.reduceEqDiff, Go.Addr.add, ↓reduceIte] at hx162_0); have qi162 : (1 < t149.length) = True := eq_true (by omega); (try rw [show ((1 : Int)).toNat = 1 from rfl] at hx162_0); have HR162_0 := Aside0.mk hi162_0; have HC162_0 := Aside0.mk hl162_0; clear hi162_0 hl162_0; replace p162 := eq_true p162; replace q162 := eq_true q162) | ((with_reducible refine gate_dst (N := 37) rfl ?_); (try (refine gate_guard (by rfl) ?_; dsimp only)); refine Kd.R_lit (Kd.int .i64) _ 3 ?hg (N := 37) ?hd (xs := ([1, 2] : List Int)) (inner := [.int .i64 1, .int .i64 2]) (ok := fun _ => True) (okp := fun _ => True) ?hr ?hp (fun _ hk => hk) trivial (Below.refl _ _) (Nat.le_refl _) (by simp) ?_; (case hd => rfl); (case hg => rfl); (case hr => first | (go_simp; done) | (go_simp; rfl)); (case hp => exact (Reps.one (show Kd.M (Kd.int .i64) _ _ _ 1 [.int .i64 1] from rfl) (Reps.one (show Kd.M (Kd.int .i64) _ _ _ 2 [.int .i64 2] from rfl) (Reps.none _ _)))); intro v164 w47 ho48 hb hg_ hnew_; clear hg_ hnew_; (first | rw [← Ny163.out] at ho48 | (simp only [Int.reduceToNat] at ho48; rw [← Ny163.out] at ho48)); have n0_ := Aside0.mk (Kd.R_below (rl HO148) hb); have n1_ := Aside0.mk (Kd.S_elder' (by (with_reducible repeat (first | apply Kd.S_alloc | apply Kd.S_drewN | apply Kd.S_drew)); exact HO152.out) (Kd.R_base ho48) hb); have n2_ := Aside0.mk (Kd.R_elder' (rl HO156) (Kd.R_base ho48) hb); have n3_ := Aside0.mk (Kd.R_elder' (rl HL157_0) (Kd.R_base ho48) hb); have n4_ := Aside0.mk (Kd.R_elder' (rl HO160) (Kd.R_base ho48) hb); have n5_ := Aside0.mk (Kd.R_elder' (rl HL162_0) (Kd.R_base ho48) hb); have n6_ := Aside0.mk (Kd.R_lower (Kd.R_new' (Kd.R_new' (Kd.R_new' (Kd.R_new' ho48 (Kd.R_lt (rl HO156))) (Kd.R_lt (rl HL157_0))) (Kd.R_lt (rl HO160))) (Kd.R_lt (rl HL162_0))) (below_size (bl HB))); have n7_ := Aside0.mk (Kd.C_below (cl HR157_0.out) hb); have n8_ := Aside0.mk (Kd.C_below (cl HR162_0.out) hb); have n9_ := Aside0.mk (below_step (bl HB) hb); clear HO148; clear HO152; clear HO156; clear HL157_0; clear HO160; clear HL162_0; clear HR157_0; clear HR162_0; clear HB; have HO148 := n0_; have HO152 := n1_; have HO156 := n2_; have HL157_0 := n3_; have HO160 := n4_; have HL162_0 := n5_; have HO165 := n6_; have HR157_0 := n7_; have HR162_0 := n8_; have HB := n9_; clear n0_ n1_ n2_ n3_ n4_ n5_ n6_ n7_ n8_ n9_; clear hb ho48; obtain ⟨Ao49, co49, eo49⟩ := Kd.R_slice HO165.out; subst eo49) | (go_at_call 20; (with_reducible refine (gampref01_Same.calls k _ _ (rd_L2 t149 1) _ _ y163 false _ ?side1 ?side2 ?side3 ?side4 A9.out).mono ?_); (case side1 => exact cl (HR162_0.out)); (case side2 => exact HC162_0.out); (case side3 => exact cl ((Kd.R_reads' HO165.out).2.2)); (case side4 => exact (Kd.R_reads' HO165.out).2.1); rintro e w' ⟨rfl, ⟨nd, rfl⟩⟩))
       go_ret
       exact ⟨by first | rfl | (simp [errW_none, errW_some] <;> rfl) | (simp [*, errW_none, errW_some] <;> rfl), by repeat (first | (with_reducible first | exact HB.out | apply below_alloc | apply pw_below_drewN | apply below_drew1) | exact HB.out)⟩
     ·rw [if_neg c8] at H
      exact absurd H (by simp)
    ·replace c7 := Bool.eq_false_iff.mpr c7
     subst c7
     have H1 : (some false) = some r := by rw [if_neg (show ¬ (false = true) by decide)] at H; exact H
     clear H
     have H := H1
     clear H1
     obtain rfl := Option.some.inj H
     go_enter Try.func18, Try.ntmps18
     go_wp2_with (first | ((with_reducible refine gate_dst (N := 8) rfl ?_); (try (refine gate_guard (by rfl) ?_; dsimp only)); refine Kd.R_lit k52 _ 52 ?hg (N := 8) ?hd (xs := ([(⟨0, 1⟩ : S52), (⟨1, 2⟩ : S52)] : List (S52))) (inner := [.int .i64 0, .int .i64 1, .int .i64 1, .int .i64 2]) (ok := fun _ => True) (okp := fun _ => True) ?hr ?hp (fun _ hk => hk) trivial (Below.refl _ _) (Nat.le_refl _) (by simp) ?_; (case hd => rfl); (case hg => rfl); (case hr => first | (go_simp; done) | (go_simp; rfl)); (case hp => exact (Reps.c2 (show Kd.M k52 _ _ _ (⟨0, 1⟩ : S52) [.int .i64 0, .int .i64 1] from (k52_mkM _ _ _ (⟨0, 1⟩ : S52) )) (Reps.c2 (show Kd.M k52 _ _ _ (⟨1, 2⟩ : S52) [.int .i64 1, .int .i64 2] from (k52_mkM _ _ _ (⟨1, 2⟩ : S52) )) (Reps.none _ _)))); intro v147 w50 ho51 hb hg_ hnew_; clear hg_ hnew_; (first | rw [← Ny146.out] at ho51 | (simp only [Int.reduceToNat] at ho51; rw [← Ny146.out] at ho51)); have n0_ := Aside0.mk (Kd.R_lower ho51 (below_size (bl HB))); have n1_ := Aside0.mk (below_step (bl HB) hb); clear HB; have HO148 := n0_; have HB := n1_; clear n0_ n1_; clear hb ho51; obtain ⟨Ao52, co52, eo52⟩ := Kd.R_slice HO148.out; subst eo52) | ((with_reducible refine gate_callee (f := 16) rfl ?_); refine gL 11 Try.func16 #[.int .i64 3, .slice Ao52 y146.length co52] ?_; (with_reducible refine (rib_Cliques.calls k 3 _ _ y146 t149 t150 _ ?side1 ?side2 A1.out).mono ?_); (case side1 => exact cl ((Kd.R_reads' HO148.out).2.2)); (case side2 => exact (Kd.R_reads' HO148.out).2.1); rintro e w53 ⟨v151, rfl, ho0, hb⟩; refine ⟨_, rfl, ?_⟩; have n0_ := Aside0.mk (Kd.R_below (rl HO148) hb); have n1_ := Aside0.mk (Kd.S_lower ho0 (below_size (bl HB))); have n2_ := Aside0.mk (below_step (bl HB) hb); clear HO148; clear HB; have HO148 := n0_; have HO152 := n1_; have HB := n2_; clear n0_ n1_ n2_; (try clear hb); (try clear hb2); (try clear hk); (try clear hi); (try clear ho0)) | ((with_reducible refine gate_callee (f := 24) rfl ?_); refine gL 16 Try.func24 #[.int .i64 3, .slice Ao52 y146.length co52] ?_; (with_reducible refine (rib_Order.calls k 3 _ _ y146 t153 t154 _ ?side1 ?side2 A2.out).mono ?_); (case side1 => exact cl ((Kd.R_reads' HO148.out).2.2)); (case side2 => exact (Kd.R_reads' HO148.out).2.1); rintro e w54 ⟨v155, rfl, ho0, hb⟩; refine ⟨_, rfl, ?_⟩; have n0_ := Aside0.mk (Kd.R_below (rl HO148) hb); have n1_ := Aside0.mk (Kd.S_elder' (by (with_reducible repeat (first | apply Kd.S_alloc | apply Kd.S_drewN | apply Kd.S_drew)); exact HO152.out) (Kd.R_base ho0) hb); have n2_ := Aside0.mk (Kd.R_lower ho0 (below_size (bl HB))); have n3_ := Aside0.mk (below_step (bl HB) hb); clear HO148; clear HO152; clear HB; have HO148 := n0_; have HO152 := n1_; have HO156 := n2_; have HB := n3_; clear n0_ n1_ n2_ n3_; (try clear hb); (try clear hb2); (try clear hk); (try clear hi); (try clear ho0); obtain ⟨Ao55, co55, eo55⟩ := Kd.S_slice HO152.out; subst eo55; have p157 : 0 ≤ (0 : Int) := (by omega); have q157 : 0 < (t149.length : Int) := ofd; obtain ⟨ad157, A157_0, c157_0, e157, hx157_0, hl157_0, hi157_0⟩ := at_L2 (Kd.S_reads' HO152.out).2.2 0 p157 q157; cases e157; obtain ⟨ce157, hce157, hMe157, hcc157⟩ := Kd.S_get HO152.out [] 0 p157 (by first | exact q157 | exact ofd | (have e_ := (Kd.S_reads' HO152.out).1; omega)); obtain ⟨ve157_0, rfl, ge157_0⟩ := hMe157; have hv157_0 := hcc157 0 _ rfl; rw [Nat.add_zero, show ((Kd.slice 3 (Kd.int .i64))).sz = 1 from rfl, Nat.mul_one] at hv157_0; replace hv157_0 := Option.some.inj (hv157_0.symm.trans hx157_0); rw [hv157_0] at ge157_0; have HL157_0 := Aside0.mk (show Kd.R (Kd.int .i64) 3 _ _ _ _ (rd_L2 t149 0) from ge157_0); clear hv157_0 ge157_0; clear hcc157 hce157; have qi157 : (0 < t149.length) = True := eq_true (by omega); (try rw [show ((0 : Int)).toNat = 0 from rfl] at hx157_0); (try rw [Addr.add_zero'] at hx157_0); have HR157_0 := Aside0.mk hi157_0; have HC157_0 := Aside0.mk hl157_0; clear hi157_0 hl157_0; replace p157 := eq_true p157; replace q157 := eq_true q157) | ((with_reducible refine gate_dst (N := 30) rfl ?_); (try (refine gate_guard (by rfl) ?_; dsimp only)); refine Kd.R_lit (Kd.int .i64) _ 3 ?hg (N := 30) ?hd (xs := ([0, 1] : List Int)) (inner := [.int .i64 0, .int .i64 1]) (ok := fun _ => True) (okp := fun _ => True) ?hr ?hp (fun _ hk => hk) trivial (Below.refl _ _) (Nat.le_refl _) (by simp) ?_; (case hd => rfl); (case hg => rfl); (case hr => first | (go_simp; done) | (go_simp; rfl)); (case hp => exact (Reps.one (show Kd.M (Kd.int .i64) _ _ _ 0 [.int .i64 0] from rfl) (Reps.one (show Kd.M (Kd.int .i64) _ _ _ 1 [.int .i64 1] from rfl) (Reps.none _ _)))); intro v159 w56 ho57 hb hg_ hnew_; clear hg_ hnew_; (first | rw [← Ny158.out] at ho57 | (simp only [Int.reduceToNat] at ho57; rw [← Ny158.out] at ho57)); have n0_ := Aside0.mk (Kd.R_below (rl HO148) hb); have n1_ := Aside0.mk (Kd.S_elder' (by (with_reducible repeat (first | apply Kd.S_alloc | apply Kd.S_drewN | apply Kd.S_drew)); exact HO152.out) (Kd.R_base ho57) hb); have n2_ := Aside0.mk (Kd.R_elder' (rl HO156) (Kd.R_base ho57) hb); have n3_ := Aside0.mk (Kd.R_elder' (rl HL157_0) (Kd.R_base ho57) hb); have n4_ := Aside0.mk (Kd.R_lower (Kd.R_new' (Kd.R_new' ho57 (Kd.R_lt (rl HO156))) (Kd.R_lt (rl HL157_0))) (below_size (bl HB))); have n5_ := Aside0.mk (Kd.C_below (cl HR157_0.out) hb); have n6_ := Aside0.mk (below_step (bl HB) hb); clear HO148; clear HO152; clear HO156; clear HL157_0; clear HR157_0; clear HB; have HO148 := n0_; have HO152 := n1_; have HO156 := n2_; have HL157_0 := n3_; have HO160 := n4_; have HR157_0 := n5_; have HB := n6_; clear n0_ n1_ n2_ n3_ n4_ n5_ n6_; clear hb ho57; obtain ⟨Ao58, co58, eo58⟩ := Kd.R_slice HO160.out; subst eo58) | (go_at_call 20; (with_reducible refine (gampref01_Same.calls k _ _ (rd_L2 t149 0) _ _ y158 false _ ?side1 ?side2 ?side3 ?side4 A6.out).mono ?_); (case side1 => exact cl (HR157_0.out)); (case side2 => exact HC157_0.out); (case side3 => exact cl ((Kd.R_reads' HO160.out).2.2)); (case side4 => exact (Kd.R_reads' HO160.out).2.1); rintro e w' ⟨rfl, ⟨nd, rfl⟩⟩))
     go_ret
     exact ⟨by first | rfl | (simp [errW_none, errW_some] <;> rfl) | (simp [*, errW_none, errW_some] <;> rfl), by repeat (first | (with_reducible first | exact HB.out | apply below_alloc | apply pw_below_drewN | apply below_drew1) | exact HB.out)⟩
   ·rw [if_neg c5] at H
    exact absurd H (by simp)
  ·rw [if_neg c4] at H
   have c4b0 : ((t149.length : Int) == 2) = false := beq_eq_false_iff_ne.mpr c4
   have c4b1 : ((t149.length : Int) != 2) = true := bne_iff_ne.mpr c4
   obtain rfl := Option.some.inj H
   go_enter Try.func18, Try.ntmps18
   go_wp2_with (first | ((with_reducible refine gate_dst (N := 8) rfl ?_); (try (refine gate_guard (by rfl) ?_; dsimp only)); refine Kd.R_lit k52 _ 52 ?hg (N := 8) ?hd (xs := ([(⟨0, 1⟩ : S52), (⟨1, 2⟩ : S52)] : List (S52))) (inner := [.int .i64 0, .int .i64 1, .int .i64 1, .int .i64 2]) (ok := fun _ => True) (okp := fun _ => True) ?hr ?hp (fun _ hk => hk) trivial (Below.refl _ _) (Nat.le_refl _) (by simp) ?_; (case hd => rfl); (case hg => rfl); (case hr => first | (go_simp; done) | (go_simp; rfl)); (case hp => exact (Reps.c2 (show Kd.M k52 _ _ _ (⟨0, 1⟩ : S52) [.int .i64 0, .int .i64 1] from (k52_mkM _ _ _ (⟨0, 1⟩ : S52) )) (Reps.c2 (show Kd.M k52 _ _ _ (⟨1, 2⟩ : S52) [.int .i64 1, .int .i64 2] from (k52_mkM _ _ _ (⟨1, 2⟩ : S52) )) (Reps.none _ _)))); intro v147 w59 ho60 hb hg_ hnew_; clear hg_ hnew_; (first | rw [← Ny146.out] at ho60 | (simp only [Int.reduceToNat] at ho60; rw [← Ny146.out] at ho60)); have n0_ := Aside0.mk (Kd.R_lower ho60 (below_size (bl HB))); have n1_ := Aside0.mk (below_step (bl HB) hb); clear HB; have HO148 := n0_; have HB := n1_; clear n0_ n1_; clear hb ho60; obtain ⟨Ao61, co61, eo61⟩ := Kd.R_slice HO148.out; subst eo61) | ((with_reducible refine gate_callee (f := 16) rfl ?_); refine gL 11 Try.func16 #[.int .i64 3, .slice Ao61 y146.length co61] ?_; (with_reducible refine (rib_Cliques.calls k 3 _ _ y146 t149 t150 _ ?side1 ?side2 A1.out).mono ?_); (case side1 => exact cl ((Kd.R_reads' HO148.out).2.2)); (case side2 => exact (Kd.R_reads' HO148.out).2.1); rintro e w62 ⟨v151, rfl, ho0, hb⟩; refine ⟨_, rfl, ?_⟩; have n0_ := Aside0.mk (Kd.R_below (rl HO148) hb); have n1_ := Aside0.mk (Kd.S_lower ho0 (below_size (bl HB))); have n2_ := Aside0.mk (below_step (bl HB) hb); clear HO148; clear HB; have HO148 := n0_; have HO152 := n1_; have HB := n2_; clear n0_ n1_ n2_; (try clear hb); (try clear hb2); (try clear hk); (try clear hi); (try clear ho0)) | ((with_reducible refine gate_callee (f := 24) rfl ?_); refine gL 16 Try.func24 #[.int .i64 3, .slice Ao61 y146.length co61] ?_; (with_reducible refine (rib_Order.calls k 3 _ _ y146 t153 t154 _ ?side1 ?side2 A2.out).mono ?_); (case side1 => exact cl ((Kd.R_reads' HO148.out).2.2)); (case side2 => exact (Kd.R_reads' HO148.out).2.1); rintro e w63 ⟨v155, rfl, ho0, hb⟩; refine ⟨_, rfl, ?_⟩; have n0_ := Aside0.mk (Kd.R_below (rl HO148) hb); have n1_ := Aside0.mk (Kd.S_elder' (by (with_reducible repeat (first | apply Kd.S_alloc | apply Kd.S_drewN | apply Kd.S_drew)); exact HO152.out) (Kd.R_base ho0) hb); have n2_ := Aside0.mk (Kd.R_lower ho0 (below_size (bl HB))); have n3_ := Aside0.mk (below_step (bl HB) hb); clear HO148; clear HO152; clear HB; have HO148 := n0_; have HO152 := n1_; have HO156 := n2_; have HB := n3_; clear n0_ n1_ n2_ n3_; (try clear hb); (try clear hb2); (try clear hk); (try clear hi); (try clear ho0); obtain ⟨Ao64, co64, eo64⟩ := Kd.S_slice HO152.out; subst eo64))
   go_ret
   exact ⟨by first | rfl | (simp [errW_none, errW_some] <;> rfl) | (simp [*, errW_none, errW_some] <;> rfl), by repeat (first | (with_reducible first | exact HB.out | apply below_alloc | apply pw_below_drewN | apply below_drew1) | exact HB.out)⟩
 ·rw [if_neg c3] at H
  have c3b0 : (t150 == 0) = false := beq_eq_false_iff_ne.mpr c3
  have c3b1 : (t150 != 0) = true := bne_iff_ne.mpr c3
  obtain rfl := Option.some.inj H
  go_enter Try.func18, Try.ntmps18
  go_wp2_with (first | ((with_reducible refine gate_dst (N := 8) rfl ?_); (try (refine gate_guard (by rfl) ?_; dsimp only)); refine Kd.R_lit k52 _ 52 ?hg (N := 8) ?hd (xs := ([(⟨0, 1⟩ : S52), (⟨1, 2⟩ : S52)] : List (S52))) (inner := [.int .i64 0, .int .i64 1, .int .i64 1, .int .i64 2]) (ok := fun _ => True) (okp := fun _ => True) ?hr ?hp (fun _ hk => hk) trivial (Below.refl _ _) (Nat.le_refl _) (by simp) ?_; (case hd => rfl); (case hg => rfl); (case hr => first | (go_simp; done) | (go_simp; rfl)); (case hp => exact (Reps.c2 (show Kd.M k52 _ _ _ (⟨0, 1⟩ : S52) [.int .i64 0, .int .i64 1] from (k52_mkM _ _ _ (⟨0, 1⟩ : S52) )) (Reps.c2 (show Kd.M k52 _ _ _ (⟨1, 2⟩ : S52) [.int .i64 1, .int .i64 2] from (k52_mkM _ _ _ (⟨1, 2⟩ : S52) )) (Reps.none _ _)))); intro v147 w65 ho66 hb hg_ hnew_; clear hg_ hnew_; (first | rw [← Ny146.out] at ho66 | (simp only [Int.reduceToNat] at ho66; rw [← Ny146.out] at ho66)); have n0_ := Aside0.mk (Kd.R_lower ho66 (below_size (bl HB))); have n1_ := Aside0.mk (below_step (bl HB) hb); clear HB; have HO148 := n0_; have HB := n1_; clear n0_ n1_; clear hb ho66; obtain ⟨Ao67, co67, eo67⟩ := Kd.R_slice HO148.out; subst eo67) | ((with_reducible refine gate_callee (f := 16) rfl ?_); refine gL 11 Try.func16 #[.int .i64 3, .slice Ao67 y146.length co67] ?_; (with_reducible refine (rib_Cliques.calls k 3 _ _ y146 t149 t150 _ ?side1 ?side2 A1.out).mono ?_); (case side1 => exact cl ((Kd.R_reads' HO148.out).2.2)); (case side2 => exact (Kd.R_reads' HO148.out).2.1); rintro e w68 ⟨v151, rfl, ho0, hb⟩; refine ⟨_, rfl, ?_⟩; have n0_ := Aside0.mk (Kd.R_below (rl HO148) hb); have n1_ := Aside0.mk (Kd.S_lower ho0 (below_size (bl HB))); have n2_ := Aside0.mk (below_step (bl HB) hb); clear HO148; clear HB; have HO148 := n0_; have HO152 := n1_; have HB := n2_; clear n0_ n1_ n2_; (try clear hb); (try clear hb2); (try clear hk); (try clear hi); (try clear ho0)) | ((with_reducible refine gate_callee (f := 24) rfl ?_); refine gL 16 Try.func24 #[.int .i64 3, .slice Ao67 y146.length co67] ?_; (with_reducible refine (rib_Order.calls k 3 _ _ y146 t153 t154 _ ?side1 ?side2 A2.out).mono ?_); (case side1 => exact cl ((Kd.R_reads' HO148.out).2.2)); (case side2 => exact (Kd.R_reads' HO148.out).2.1); rintro e w69 ⟨v155, rfl, ho0, hb⟩; refine ⟨_, rfl, ?_⟩; have n0_ := Aside0.mk (Kd.R_below (rl HO148) hb); have n1_ := Aside0.mk (Kd.S_elder' (by (with_reducible repeat (first | apply Kd.S_alloc | apply Kd.S_drewN | apply Kd.S_drew)); exact HO152.out) (Kd.R_base ho0) hb); have n2_ := Aside0.mk (Kd.R_lower ho0 (below_size (bl HB))); have n3_ := Aside0.mk (below_step (bl HB) hb); clear HO148; clear HO152; clear HB; have HO148 := n0_; have HO152 := n1_; have HO156 := n2_; have HB := n3_; clear n0_ n1_ n2_ n3_; (try clear hb); (try clear hb2); (try clear hk); (try clear hi); (try clear ho0)))
  go_ret
  exact ⟨by first | rfl | (simp [errW_none, errW_some] <;> rfl) | (simp [*, errW_none, errW_some] <;> rfl), by repeat (first | (with_reducible first | exact HB.out | apply below_alloc | apply pw_below_drewN | apply below_drew1) | exact HB.out)⟩
def gampref04_Near.l0 : Nat → List (S52) → Int → Int → Int → Option (Bool)
  | 0, _, _, _, _ => none
  | k + 1, x0, x1, x2, x7 => if x7 < (x0.length : Int) then (if 0 ≤ x7 then (if ((rd_T52 x0 x7).f0) = (mn x1 x2) then (if ((rd_T52 x0 x7).f1) = (mx x1 x2) then (if x1 = x2 then (gampref04_Near.l0 k x0 x1 x2 (wrap64 (x7 + 1))) else (some true)) else (gampref04_Near.l0 k x0 x1 x2 (wrap64 (x7 + 1)))) else (gampref04_Near.l0 k x0 x1 x2 (wrap64 (x7 + 1)))) else (none)) else (some false)
def gampref04_Near.f (k : Nat) (l0 : List (S52)) (a1 : Int) (a2 : Int) : Option (Bool) := gampref04_Near.l0 k l0 a1 a2 0
theorem gampref04_Near.mono_l : ∀ k, (∀ y0 y1 y2 y3, LeO (gampref04_Near.l0 k y0 y1 y2 y3) (gampref04_Near.l0 (k + 1) y0 y1 y2 y3))
 | 0 => fun _ _ _ _ r h => by simp [gampref04_Near.l0] at h
 | k + 1 => by
  have ih0 := gampref04_Near.mono_l k
  ·intro y0 y1 y2 y3
   unfold gampref04_Near.l0
   repeat' first
   | (with_reducible exact ih0 _ _ _ _)
   | (with_reducible exact LeO.refl _)
   | (with_reducible exact LeO.none _)
   | (with_reducible refine LeO.ite ?_ ?_)
   | (with_reducible refine LeO.bind ?_ (fun _ => ?_))
   | exact ih0 _ _ _ _
   | exact LeO.none _
   | refine LeO.ite ?_ ?_
   | refine LeO.bind ?_ (fun _ => ?_)
theorem gampref04_Near.mono : ∀ a0 a1 a2 k, LeO (gampref04_Near.f k a0 a1 a2) (gampref04_Near.f (k + 1) a0 a1 a2) := by
  intro a0 a1 a2 k
  have ih0 := gampref04_Near.mono_l k
  unfold gampref04_Near.f
  repeat' first
      | (with_reducible exact ih0 _ _ _ _)
      | (with_reducible exact LeO.refl _)
      | (with_reducible exact LeO.none _)
      | (with_reducible refine LeO.ite ?_ ?_)
      | (with_reducible refine LeO.bind ?_ (fun _ => ?_))
      | exact ih0 _ _ _ _
      | exact LeO.none _
      | refine LeO.ite ?_ ?_
      | refine LeO.bind ?_ (fun _ => ?_)
set_option maxHeartbeats 8000000 in
set_option maxRecDepth 100000 in
theorem gampref04_Near.calls (k : Nat) (A0 : Option Addr) (c0 : Nat) (l0 : List (S52)) (a1 : Int) (a2 : Int) (r : Bool) (w : World) (hr0 : Kd.C k52 w A0 l0.length l0) (hc0 : l0.length ≤ c0) (h : gampref04_Near.f k l0 a1 a2 = some r) :
  Calls Try.prog 61 #[.slice A0 l0.length c0, .int .i64 a1, .int .i64 a2] w fun e w' => e = .returned (.bool r) ∧ Below w.heap.size w w' := by
 have HR0 := Aside0.mk hr0
 have HC0 := Aside0.mk hc0
 clear hr0 hc0
 have HB := Aside0.mk (Below.refl w.heap.size w)
 have H : (gampref04_Near.l0 k l0 a1 a2 0) = some r := h
 clear h
 have H' := Aside0.mk H
 clear H
 go_enter Try.func61, Try.ntmps61
 go_wp2
 go_loopg [7] k (fun kq v7 w' => ∃ (x7_1 : Int), v7 = .int .i64 x7_1 ∧ Aside0 (gampref04_Near.l0 kq l0 a1 a2 x7_1 = some r) ∧ Aside0 (kq ≤ k) ∧ Aside0 (Below w.heap.size w w'))
 case atStart => exact ⟨(0), (by first | rfl | (simp; done) | (simp [*]; done)), H', ⟨Nat.le_refl _⟩, ⟨bl HB⟩⟩
 case round =>
  clear H'
  try clear p2
  obtain ⟨x7_1, rfl, HA, HK1, HB⟩ := hrel
  cases gk with
  | zero => exact absurd HA.out (by simp [gampref04_Near.l0])
  | succ k1 =>
   have H := HA.out
   clear HA
   simp only [gampref04_Near.l0] at H
   by_cases c4 : x7_1 < (l0.length : Int)
   ·rw [if_pos c4] at H
    have c4b0 : decide (x7_1 < (l0.length : Int)) = true := decide_eq_true c4
    clear c4
    by_cases c5 : 0 ≤ x7_1
    ·rw [if_pos c5] at H
     have c5b0 : decide (0 ≤ x7_1) = true := decide_eq_true c5
     clear c5
     obtain ⟨ji6, hji6⟩ : ∃ j_ : Int, (mn a1 a2) = j_ := ⟨_, rfl⟩
     replace H : (if ((rd_T52 l0 x7_1).f0) = (ji6) then (if ((rd_T52 l0 x7_1).f1) = (mx a1 a2) then (if a1 = a2 then (gampref04_Near.l0 k1 l0 a1 a2 (wrap64 (x7_1 + 1))) else (some true)) else (gampref04_Near.l0 k1 l0 a1 a2 (wrap64 (x7_1 + 1)))) else (gampref04_Near.l0 k1 l0 a1 a2 (wrap64 (x7_1 + 1)))) = some r := by first | (rw [hji6] at H; exact H) | (simp only [hji6] at H ⊢; exact H)
     have hji6_ : (if a2 < a1 then a2 else a1) = ji6 := hji6
     by_cases c7 : ((rd_T52 l0 x7_1).f0) = (ji6)
     ·rw [if_pos c7] at H
      have c7b0 : (((rd_T52 l0 x7_1).f0) == (ji6)) = true := beq_iff_eq.mpr c7
      have c7b1 : (((rd_T52 l0 x7_1).f0) != (ji6)) = false := bne_eq_false_iff_eq.mpr c7
      clear c7
      obtain ⟨ji8, hji8⟩ : ∃ j_ : Int, (mx a1 a2) = j_ := ⟨_, rfl⟩
      replace H : (if ((rd_T52 l0 x7_1).f1) = (ji8) then (if a1 = a2 then (gampref04_Near.l0 k1 l0 a1 a2 (wrap64 (x7_1 + 1))) else (some true)) else (gampref04_Near.l0 k1 l0 a1 a2 (wrap64 (x7_1 + 1)))) = some r := by first | (rw [hji8] at H; exact H) | (simp only [hji8] at H ⊢; exact H)
      have hji8_ : (if a1 < a2 then a2 else a1) = ji8 := hji8
      by_cases c9 : ((rd_T52 l0 x7_1).f1) = (ji8)
      ·rw [if_pos c9] at H
       have c9b0 : (((rd_T52 l0 x7_1).f1) == (ji8)) = true := beq_iff_eq.mpr c9
       have c9b1 : (((rd_T52 l0 x7_1).f1) != (ji8)) = false := bne_eq_false_iff_eq.mpr c9
       clear c9
       by_cases c10 : a1 = a2
       ·rw [if_pos c10] at H
        have c10b0 : (a1 == a2) = true := beq_iff_eq.mpr c10
        have c10b1 : (a1 != a2) = false := bne_eq_false_iff_eq.mpr c10
        clear c10
        have H' := Aside0.mk H
        clear H
        have p168 : 0 ≤ (x7_1 : Int) := ofd
        have q168 : x7_1 < (l0.length : Int) := ofd
        obtain ⟨ad168, e168, hx168_0, hx168_1⟩ := at_T52 HR0.out x7_1 p168 q168
        cases e168
        replace hx168_0 := (HB.out.cell (World.block_lt_of_cell? w _ hx168_0)).trans hx168_0
        replace hx168_1 := (HB.out.cell (World.block_lt_of_cell? w _ hx168_1)).trans hx168_1
        replace p168 := eq_true p168
        replace q168 := eq_true q168
        have p169 : 0 ≤ (x7_1 : Int) := ofd
        have q169 : x7_1 < (l0.length : Int) := ofd
        obtain ⟨ad169, e169, hx169_0, hx169_1⟩ := at_T52 HR0.out x7_1 p169 q169
        obtain rfl : ad168 = ad169 := (by injection e169)
        replace hx169_0 := (HB.out.cell (World.block_lt_of_cell? w _ hx169_0)).trans hx169_0
        replace hx169_1 := (HB.out.cell (World.block_lt_of_cell? w _ hx169_1)).trans hx169_1
        replace p169 := eq_true p169
        replace q169 := eq_true q169
        go_wp2
        go_roundg k1
        case measure => have := HK1.out; omega
        case rel => exact ⟨(wrap64 (x7_1 + 1)), (by first | rfl | (simp; done) | (simp [*]; done)), H', ⟨by have := HK1.out; omega⟩, ⟨bl HB⟩⟩
       ·rw [if_neg c10] at H
        have c10b0 : (a1 == a2) = false := beq_eq_false_iff_ne.mpr c10
        have c10b1 : (a1 != a2) = true := bne_iff_ne.mpr c10
        obtain rfl := Option.some.inj H
        have p168 : 0 ≤ (x7_1 : Int) := ofd
        have q168 : x7_1 < (l0.length : Int) := ofd
        obtain ⟨ad168, e168, hx168_0, hx168_1⟩ := at_T52 HR0.out x7_1 p168 q168
        cases e168
        replace hx168_0 := (HB.out.cell (World.block_lt_of_cell? w _ hx168_0)).trans hx168_0
        replace hx168_1 := (HB.out.cell (World.block_lt_of_cell? w _ hx168_1)).trans hx168_1
        replace p168 := eq_true p168
        replace q168 := eq_true q168
        have p169 : 0 ≤ (x7_1 : Int) := ofd
        have q169 : x7_1 < (l0.length : Int) := ofd
        obtain ⟨ad169, e169, hx169_0, hx169_1⟩ := at_T52 HR0.out x7_1 p169 q169
        obtain rfl : ad168 = ad169 := (by injection e169)
        replace hx169_0 := (HB.out.cell (World.block_lt_of_cell? w _ hx169_0)).trans hx169_0
        replace hx169_1 := (HB.out.cell (World.block_lt_of_cell? w _ hx169_1)).trans hx169_1
        replace p169 := eq_true p169
        replace q169 := eq_true q169
        go_wp2
        go_ret
        exact ⟨by first | rfl | (simp [errW_none, errW_some] <;> rfl) | (simp only [← hji6, ← hji8]; first | rfl | (simp [errW_none, errW_some] <;> rfl)) | (simp [*, errW_none, errW_some] <;> rfl), by repeat (first | (with_reducible first | exact HB.out | apply below_alloc | apply pw_below_drewN | apply below_drew1) | exact HB.out)⟩
      ·rw [if_neg c9] at H
       have c9b0 : (((rd_T52 l0 x7_1).f1) == (ji8)) = false := beq_eq_false_iff_ne.mpr c9
       have c9b1 : (((rd_T52 l0 x7_1).f1) != (ji8)) = true := bne_iff_ne.mpr c9
       have H' := Aside0.mk H
       clear H
       have p168 : 0 ≤ (x7_1 : Int) := ofd
       have q168 : x7_1 < (l0.length : Int) := ofd
       obtain ⟨ad168, e168, hx168_0, hx168_1⟩ := at_T52 HR0.out x7_1 p168 q168
       cases e168
       replace hx168_0 := (HB.out.cell (World.block_lt_of_cell? w _ hx168_0)).trans hx168_0
       replace hx168_1 := (HB.out.cell (World.block_lt_of_cell? w _ hx168_1)).trans hx168_1
       replace p168 := eq_true p168
       replace q168 := eq_true q168
       have p169 : 0 ≤ (x7_1 : Int) := ofd
       have q169 : x7_1 < (l0.length : Int) := ofd
       obtain ⟨ad169, e169, hx169_0, hx169_1⟩ := at_T52 HR0.out x7_1 p169 q169
       obtain rfl : ad168 = ad169 := (by injection e169)
       replace hx169_0 := (HB.out.cell (World.block_lt_of_cell? w _ hx169_0)).trans hx169_0
       replace hx169_1 := (HB.out.cell (World.block_lt_of_cell? w _ hx169_1)).trans hx169_1
       replace p169 := eq_true p169
       replace q169 := eq_true q169
       go_wp2
       go_roundg k1
       case measure => have := HK1.out; omega
       case rel => exact ⟨(wrap64 (x7_1 + 1)), (by first | rfl | (simp; done) | (simp [*]; done)), H', ⟨by have := HK1.out; omega⟩, ⟨bl HB⟩⟩
     ·rw [if_neg c7] at H
      have c7b0 : (((rd_T52 l0 x7_1).f0) == (ji6)) = false := beq_eq_false_iff_ne.mpr c7
      have c7b1 : (((rd_T52 l0 x7_1).f0) != (ji6)) = true := bne_iff_ne.mpr c7
      have H' := Aside0.mk H
      clear H
      have p168 : 0 ≤ (x7_1 : Int) := ofd
      have q168 : x7_1 < (l0.length : Int) := ofd
      obtain ⟨ad168, e168, hx168_0, hx168_1⟩ := at_T52 HR0.out x7_1 p168 q168
      cases e168
      replace hx168_0 := (HB.out.cell (World.block_lt_of_cell? w _ hx168_0)).trans hx168_0
      replace hx168_1 := (HB.out.cell (World.block_lt_of_cell? w _ hx168_1)).trans hx168_1
      replace p168 := eq_true p168
      replace q168 := eq_true q168
      go_wp2
      go_roundg k1
      case measure => have := HK1.out; omega
      case rel => exact ⟨(wrap64 (x7_1 + 1)), (by first | rfl | (simp; done) | (simp [*]; done)), H', ⟨by have := HK1.out; omega⟩, ⟨bl HB⟩⟩
    ·rw [if_neg c5] at H
     exact absurd H (by simp)
   ·rw [if_neg c4] at H
    have c4b0 : decide (x7_1 < (l0.length : Int)) = false := decide_eq_false c4
    clear c4
    obtain rfl := Option.some.inj H
    go_wp2
    go_ret
    exact ⟨by first | rfl | (simp [errW_none, errW_some] <;> rfl) | (simp [*, errW_none, errW_some] <;> rfl), by repeat (first | (with_reducible first | exact HB.out | apply below_alloc | apply pw_below_drewN | apply below_drew1) | exact HB.out)⟩
end Go.Proofs.Ytdpolfflemocaaa.Rx

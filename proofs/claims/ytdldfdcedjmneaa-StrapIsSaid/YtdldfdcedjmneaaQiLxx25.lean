/- The declarations of Lxx25 that the claim Qi needs. -/
import Derived.Test.YtdldfdcedjmneaaQiTkP
import Derived.Test.YtdldfdcedjmneaaQiLxx0
import Derived.Test.YtdldfdcedjmneaaQiPbx8
import Derived.Test.YtdldfdcedjmneaaQiPbx1
import Derived.Test.YtdldfdcedjmneaaQiLxx23
namespace Go.Proofs.Ytdldfdcedjmneaa.Lx
open Go.RowKit Go.Proofs.Ytdldfdcedjmneaa.Own Go.Proofs.Ytdldfdcedjmneaa.Pb Go.Proofs.YtdldfdcedjmneaaW.PrintWords Go.Proofs.YtdldfdcedjmneaaW.PrintLast Go.Proofs.YtdldfdcedjmneaaW.PrintMore
attribute [local go_sem] max2_int min2_int max_two min_two max_three min_three max_four min_four
set_option linter.unusedVariables false
set_option linter.unusedSimpArgs false
mutual
def strap_Word.j0 : Nat → Int → Bool → Int → List (List Int) → Option (List Int × Int)
  | 0, _, _, _, _ => none
  | k + 1, x0, x11, x591000, x591001 => if x11 = true then (some (([] : List Int), 1)) else ((strap_formed.f k x0 x591000 x591001).bind fun t591 => (if t591 = true then ((strap_twist.f k x0).bind fun t592 => ((strap_perm_word.f k t592).bind fun t595 => (if x591000 > 10000 then (strap_Word.j1 k t595 true x591000 x591001) else (strap_Word.j1 k t595 (decide (x591000 < (-10000))) x591000 x591001)))) else (some (([] : List Int), 2))))
def strap_Word.j1 : Nat → List Int → Bool → Int → List (List Int) → Option (List Int × Int)
  | 0, _, _, _, _ => none
  | k + 1, x6, x33, x591000, x591001 => if x33 = true then (some (([] : List Int), 3)) else (if x591000 < 0 then ((slices_Reverse_int_int.f k x6).bind fun t598 => (strap_Word.l0 k t598 (x6.length : Int) 0 x591000 x591001)) else (strap_Word.j3 k x6 x591000 x591001))
def strap_Word.j3 : Nat → List Int → Int → List (List Int) → Option (List Int × Int)
  | 0, _, _, _ => none
  | k + 1, x6, x591000, x591001 => strap_Word.l1 k x6 ([] : List Int) (mx x591000 (wrap64 (-x591000))) 0 x591000 x591001
def strap_Word.l1 : Nat → List Int → List Int → Int → Int → Int → List (List Int) → Option (List Int × Int)
  | 0, _, _, _, _, _, _ => none
  | k + 1, x6, x8, x58, x59, x591000, x591001 => if x59 < x58 then (if x8.length + x6.length < 17592186044416 then (strap_Word.l1 k x6 (x8 ++ x6) x58 (wrap64 (x59 + 1)) x591000 x591001) else (none)) else (strap_Word.l2 k x8 x591001 (x591001.length : Int) 0)
def strap_Word.l2 : Nat → List Int → List (List Int) → Int → Int → Option (List Int × Int)
  | 0, _, _, _, _ => none
  | k + 1, x8, x66, x67, x68 => if x68 < x67 then (if 0 ≤ x68 then (if x68 < (x66.length : Int) then ((strap_perm_word.f k (rd_L1 x66 x68)).bind fun t605 => (if x8.length + t605.length < 17592186044416 then (strap_Word.l2 k (x8 ++ t605) x66 x67 (wrap64 (x68 + 1))) else (none))) else (none)) else (none)) else (if (x8.length : Int) > 10000 then (some (([] : List Int), 3)) else (some (x8, 0)))
def strap_Word.l0 : Nat → List Int → Int → Int → Int → List (List Int) → Option (List Int × Int)
  | 0, _, _, _, _, _ => none
  | k + 1, x6, x40, x41, x591000, x591001 => if x41 < x40 then (if 0 ≤ x41 then (if x41 < (x6.length : Int) then (strap_Word.l0 k (x6.set (x41 : Int).toNat (wrap64 (-(rd x6 x41)))) x40 (wrap64 (x41 + 1)) x591000 x591001) else (none)) else (none)) else (strap_Word.j3 k x6 x591000 x591001)
end
def strap_Word.f (k : Nat) (a0 : Int) (a1_0 : Int) (l1_1 : List (List Int)) : Option (List Int × Int) := if a0 < 2 then (strap_Word.j0 k a0 true a1_0 l1_1) else (strap_Word.j0 k a0 (decide (a0 > 8)) a1_0 l1_1)
set_option maxHeartbeats 8000000 in
set_option maxRecDepth 100000 in
theorem strap_Word.calls (k : Nat) (a0 : Int) (a1_0 : Int) (A1_1 : Option Addr) (c1_1 : Nat) (l1_1 : List (List Int)) (r1 : List Int) (r2 : Int) (w : World) (hr1_1 : Kd.C (Kd.slice 3 (Kd.int .i64)) w A1_1 l1_1.length l1_1) (hc1_1 : l1_1.length ≤ c1_1) (h : strap_Word.f k a0 a1_0 l1_1 = some (r1, r2)) :
  Calls Try.prog 51 #[.int .i64 a0, .agg #[.int .i64 a1_0, .slice A1_1 l1_1.length c1_1]] w fun e w' => ∃ v0_ : Value, e = .returned (.tuple #[v0_, .int .i64 r2]) ∧ Kd.R (Kd.int .i64) 3 w' w.heap.size (fun _ => True) v0_ r1 ∧ Below w.heap.size w w' := by
 have hu26 := Try.underlying26
 have HR1_1 := Aside0.mk hr1_1
 have HC1_1 := Aside0.mk hc1_1
 clear hr1_1 hc1_1
 have HB := Aside0.mk (Below.refl w.heap.size w)
 have H : (if a0 < 2 then (strap_Word.j0 k a0 true a1_0 l1_1) else (strap_Word.j0 k a0 (decide (a0 > 8)) a1_0 l1_1)) = some (r1, r2) := h
 clear h
 have HC3 := Aside0.mk H
 clear H
 go_enter Try.func51, Try.ntmps51
 go_upto_region 1 with (first | ((with_reducible refine gate_dst (N := 3) rfl ?_); refine box_event ?hg (N := 3) ?hd (cs := #[.int .i64 a1_0, .slice A1_1 l1_1.length c1_1]) (t := 26) ?hr ?_; (case hd => rfl); (case hg => rfl); (case hr => first | (go_simp; done) | (go_simp; rfl)); intro gb590 hg w4 hbox hb; have n0_ := Aside0.mk (below_step (bl HB) hb); have n1_ := Aside0.mk (hbox); have n2_ := Aside0.mk ((by rw [hg]; exact (below_size (bl HB)) : w.heap.size ≤ gb590)); have n3_ := Aside0.mk ((by rw [hg]; exact (below_size (bl HB)) : w.heap.size ≤ gb590)); clear HB; have HB := n0_; have BK590 := n1_; have GW590 := n2_; have GE590 := n3_; clear n0_ n1_ n2_ n3_; clear hb hbox hg))
 (try simp only [Act.put, List.setIfInBounds_toArray, List.set_cons_zero, List.set_cons_succ])
 go_cut [11] (fun v11 wc => ∃ (kq : Nat) (x11_2 : Bool), v11 = .bool x11_2 ∧ Aside0 (strap_Word.j0 kq a0 x11_2 a1_0 l1_1 = some (r1, r2)) ∧ Aside0 (kq ≤ k) ∧ Aside0 (wc.heap[gb590]? = some (.cells #[.int .i64 a1_0, (.slice A1_1 l1_1.length c1_1)] 26 (0, 0))) ∧ Aside0 (Below w.heap.size w wc))
 case first =>
  have H := HC3.out
  clear HC3
  by_cases c5 : a0 < 2
  ·rw [if_pos c5] at H
   have c5b0 : decide (a0 < 2) = true := decide_eq_true c5
   clear c5
   (first | rw [c5b0] | (simp only [i64_w, i32_w]; rw [c5b0]) | skip)
   have H' := Aside0.mk H
   clear H
   go_wp2
   go_meet
   case rel => exact ⟨_, (true), (by first | rfl | (simp; done) | (simp [*]; done)), H', ⟨by first | omega | exact Nat.le_refl _⟩, ⟨bk BK590⟩, ⟨bl HB⟩⟩
  ·rw [if_neg c5] at H
   have c5b0 : decide (a0 < 2) = false := decide_eq_false c5
   clear c5
   (first | rw [c5b0] | (simp only [i64_w, i32_w]; rw [c5b0]) | skip)
   have H' := Aside0.mk H
   clear H
   go_wp2
   go_meet
   case rel => exact ⟨_, (decide (a0 > 8)), (by first | rfl | (simp; done) | (simp [*]; done)), H', ⟨by first | omega | exact Nat.le_refl _⟩, ⟨bk BK590⟩, ⟨bl HB⟩⟩
 case rest =>
  clear HC3
  try clear c1
  try clear p2
  try clear c5
  try clear c5b0
  obtain ⟨kq, x11_2, rfl, HA, HJ2, BK590, HB⟩ := hcut
  cases kq with
  | zero => exact absurd HA.out (by simp [strap_Word.j0])
  | succ kj2 =>
   have H := HA.out
   clear HA
   simp only [strap_Word.j0] at H
   by_cases c6 : x11_2 = true
   ·subst c6
    have H1 : (some (([] : List Int), 1)) = some (r1, r2) := by rw [if_pos rfl] at H; exact H
    clear H
    have H := H1
    clear H1
    simp only [Option.some.injEq, Prod.mk.injEq] at H
    obtain ⟨rfl, rfl⟩ := H
    go_wp2
    go_ret2
    exact ⟨_, by first | rfl | (simp [errW_none, errW_some] <;> rfl) | (simp [*, errW_none, errW_some] <;> rfl), by first | exact Kd.R_nil _ _ _ _ _ | exact Kd.N_nil _ _ _ _ _ | exact Kd.V_nil _ _ _ _ _ | exact Kd.Q_nil _ _ _ _ _ | exact Kd.S_nil _ _ _ _ _, by repeat (first | (with_reducible first | exact HB.out | apply below_alloc | apply pw_below_drewN | apply below_drew1 | refine below_set ?_ GE590.out) | exact HB.out)⟩
   ·replace c6 := Bool.eq_false_iff.mpr c6
    subst c6
    have H1 : ((strap_formed.f kj2 a0 a1_0 l1_1).bind fun t591 => (if t591 = true then ((strap_twist.f kj2 a0).bind fun t592 => ((strap_perm_word.f kj2 t592).bind fun t595 => (if a1_0 > 10000 then (strap_Word.j1 kj2 t595 true a1_0 l1_1) else (strap_Word.j1 kj2 t595 (decide (a1_0 < (-10000))) a1_0 l1_1)))) else (some (([] : List Int), 2)))) = some (r1, r2) := by rw [if_neg (show ¬ (false = true) by decide)] at H; exact H
    clear H
    have H := H1
    clear H1
    replace H := Option.bind_eq_some_iff.mp H
    obtain ⟨t591, A70, H⟩ := H
    replace H : (if t591 = true then ((strap_twist.f kj2 a0).bind fun t592 => ((strap_perm_word.f kj2 t592).bind fun t595 => (if a1_0 > 10000 then (strap_Word.j1 kj2 t595 true a1_0 l1_1) else (strap_Word.j1 kj2 t595 (decide (a1_0 < (-10000))) a1_0 l1_1)))) else (some (([] : List Int), 2))) = some (r1, r2) := H
    have A7 := Aside0.mk A70
    clear A70
    by_cases c8 : t591 = true
    ·subst c8
     have H1 : ((strap_twist.f kj2 a0).bind fun t592 => ((strap_perm_word.f kj2 t592).bind fun t595 => (if a1_0 > 10000 then (strap_Word.j1 kj2 t595 true a1_0 l1_1) else (strap_Word.j1 kj2 t595 (decide (a1_0 < (-10000))) a1_0 l1_1)))) = some (r1, r2) := by rw [if_pos rfl] at H; exact H
     clear H
     have H := H1
     clear H1
     replace H := Option.bind_eq_some_iff.mp H
     obtain ⟨t592, A90, H⟩ := H
     replace H : ((strap_perm_word.f kj2 t592).bind fun t595 => (if a1_0 > 10000 then (strap_Word.j1 kj2 t595 true a1_0 l1_1) else (strap_Word.j1 kj2 t595 (decide (a1_0 < (-10000))) a1_0 l1_1))) = some (r1, r2) := H
     have A9 := Aside0.mk A90
     clear A90
     replace H := Option.bind_eq_some_iff.mp H
     obtain ⟨t595, A100, H⟩ := H
     replace H : (if a1_0 > 10000 then (strap_Word.j1 kj2 t595 true a1_0 l1_1) else (strap_Word.j1 kj2 t595 (decide (a1_0 < (-10000))) a1_0 l1_1)) = some (r1, r2) := H
     have A10 := Aside0.mk A100
     clear A100
     have HC11 := Aside0.mk H
     clear H
     have hcz12_0 : wc.cell? ⟨gb590, 0, none⟩ = some (.int .i64 a1_0) := (blk_cell BK590.out 0).trans rfl
     have hcz12_1 : wc.cell? ⟨gb590, 1, none⟩ = some (.slice A1_1 l1_1.length c1_1) := (blk_cell BK590.out 1).trans rfl
     have hfz12_0 := blk_frozen BK590.out 0
     have hfz12_1 := blk_frozen BK590.out 1
     go_upto_region 6 with (first | ((with_reducible refine gate_callee (f := 77) rfl ?_); refine gL 21 Try.func77 #[.int .i64 a0, .agg #[.int .i64 a1_0, .slice A1_1 l1_1.length c1_1]] ?_; (with_reducible refine (strap_formed.calls kj2 a0 a1_0 _ _ l1_1 true _ ?side1 ?side2 A7.out).mono ?_); (case side1 => exact cl (Kd.C_below HR1_1.out HB.out)); (case side2 => exact HC1_1.out); rintro e w13 ⟨rfl, hb⟩; refine ⟨_, rfl, ?_⟩; have n0_ := Aside0.mk (blk_below (g := gb590) (o := .cells #[.int .i64 a1_0, .slice A1_1 l1_1.length c1_1] 26 (0, 0)) (bk BK590) hb); have n1_ := Aside0.mk (below_step (bl HB) hb); clear BK590; clear HB; have BK590 := n0_; have HB := n1_; clear n0_ n1_; (try clear hb); (try clear hb2); (try clear hk); (try clear hi)) | ((with_reducible refine gate_callee (f := 78) rfl ?_); refine gL 24 Try.func78 #[.int .i64 a0] ?_; (with_reducible refine (strap_twist.calls kj2 a0 t592 _ A9.out).mono ?_); rintro e w14 ⟨v593, rfl, ho0, hb⟩; refine ⟨_, rfl, ?_⟩; have n0_ := Aside0.mk (Kd.R_lower ho0 (below_size (bl HB))); have n1_ := Aside0.mk (blk_below (g := gb590) (o := .cells #[.int .i64 a1_0, .slice A1_1 l1_1.length c1_1] 26 (0, 0)) (bk BK590) hb); have n2_ := Aside0.mk (below_step (bl HB) hb); clear BK590; clear HB; have HO594 := n0_; have BK590 := n1_; have HB := n2_; clear n0_ n1_ n2_; (try clear hb); (try clear hb2); (try clear hk); (try clear hi); (try clear ho0); obtain ⟨Ao15, co15, eo15⟩ := Kd.R_slice HO594.out; subst eo15) | ((with_reducible refine gate_callee (f := 79) rfl ?_); refine gL 25 Try.func79 #[.slice Ao15 t592.length co15] ?_; (with_reducible refine (strap_perm_word.calls kj2 _ _ t592 t595 _ ?side1 ?side2 A10.out).mono ?_); (case side1 => exact cl ((Kd.R_reads' HO594.out).2.2)); (case side2 => exact (Kd.R_reads' HO594.out).2.1); rintro e w16 ⟨v596, rfl, ho0, hb⟩; refine ⟨_, rfl, ?_⟩; have n0_ := Aside0.mk (Kd.R_elder' (rl HO594) (Kd.R_base ho0) hb); have n1_ := Aside0.mk (Kd.R_lower (Kd.R_new' ho0 (Kd.R_lt (rl HO594))) (below_size (bl HB))); have n2_ := Aside0.mk (blk_below (g := gb590) (o := .cells #[.int .i64 a1_0, .slice A1_1 l1_1.length c1_1] 26 (0, 0)) (bk BK590) hb); have n3_ := Aside0.mk (below_step (bl HB) hb); clear HO594; clear BK590; clear HB; have HO594 := n0_; have HO597 := n1_; have BK590 := n2_; have HB := n3_; clear n0_ n1_ n2_ n3_; (try clear hb); (try clear hb2); (try clear hk); (try clear hi); (try clear ho0)))
     (try simp only [Act.put, List.setIfInBounds_toArray, List.set_cons_zero, List.set_cons_succ])
     go_cut [33] (fun v33 wc => ∃ (kq : Nat) (x33_10 : Bool), v33 = .bool x33_10 ∧ Aside0 (strap_Word.j1 kq t595 x33_10 a1_0 l1_1 = some (r1, r2)) ∧ Aside0 (kq ≤ kj2) ∧ Aside0 (Kd.R (Kd.int .i64) 3 wc w.heap.size (fun _ => True) v596 t595) ∧ Aside0 (wc.heap[gb590]? = some (.cells #[.int .i64 a1_0, (.slice A1_1 l1_1.length c1_1)] 26 (0, 0))) ∧ Aside0 (Below w.heap.size w wc))
     case first =>
      have H := HC11.out
      clear HC11
      by_cases c17 : a1_0 > 10000
      ·rw [if_pos c17] at H
       have c17b0 : decide (10000 < a1_0) = true := decide_eq_true c17
       clear c17
       (first | rw [c17b0] | (simp only [i64_w, i32_w]; rw [c17b0]) | skip)
       have H' := Aside0.mk H
       clear H
       have hcz18_0 : w16.cell? ⟨gb590, 0, none⟩ = some (.int .i64 a1_0) := (blk_cell BK590.out 0).trans rfl
       have hcz18_1 : w16.cell? ⟨gb590, 1, none⟩ = some (.slice A1_1 l1_1.length c1_1) := (blk_cell BK590.out 1).trans rfl
       have hfz18_0 := blk_frozen BK590.out 0
       have hfz18_1 := blk_frozen BK590.out 1
       go_wp2
       go_meet
       case rel => exact ⟨_, (true), (by first | rfl | (simp; done) | (simp [*]; done)), H', ⟨by have := HJ2.out; first | omega | exact Nat.le_refl _⟩, ⟨by (with_reducible repeat (first | apply Kd.R_alloc | apply Kd.R_drewN | apply Kd.R_drew)); exact Kd.R_mono HO597.out (fun _ hk => trivial)⟩, ⟨bk BK590⟩, ⟨bl HB⟩⟩
      ·rw [if_neg c17] at H
       have c17b0 : decide (10000 < a1_0) = false := decide_eq_false c17
       clear c17
       (first | rw [c17b0] | (simp only [i64_w, i32_w]; rw [c17b0]) | skip)
       have H' := Aside0.mk H
       clear H
       have hcz19_0 : w16.cell? ⟨gb590, 0, none⟩ = some (.int .i64 a1_0) := (blk_cell BK590.out 0).trans rfl
       have hcz19_1 : w16.cell? ⟨gb590, 1, none⟩ = some (.slice A1_1 l1_1.length c1_1) := (blk_cell BK590.out 1).trans rfl
       have hfz19_0 := blk_frozen BK590.out 0
       have hfz19_1 := blk_frozen BK590.out 1
       go_wp2
       go_meet
       case rel => exact ⟨_, (decide (a1_0 < (-10000))), (by first | rfl | (simp; done) | (simp [*]; done)), H', ⟨by have := HJ2.out; first | omega | exact Nat.le_refl _⟩, ⟨by (with_reducible repeat (first | apply Kd.R_alloc | apply Kd.R_drewN | apply Kd.R_drew)); exact Kd.R_mono HO597.out (fun _ hk => trivial)⟩, ⟨bk BK590⟩, ⟨bl HB⟩⟩
     case rest =>
      clear HC11
      try clear c1
      try clear p2
      try clear c5
      try clear c5b0
      try clear c6
      try clear c7
      try clear c8
      try clear c17
      try clear c17b0
      try clear hcz12_0
      try clear hcz12_1
      try clear hcz18_0
      try clear hcz18_1
      try clear hcz19_0
      try clear hcz19_1
      try clear hfz12_0
      try clear hfz12_1
      try clear hfz18_0
      try clear hfz18_1
      try clear hfz19_0
      try clear hfz19_1
      try clear p2
      obtain ⟨kq, x33_10, rfl, HA, HJ10, HO_6, BK590, HB⟩ := hcut
      cases kq with
      | zero => exact absurd HA.out (by simp [strap_Word.j1])
      | succ kj10 =>
       have H := HA.out
       clear HA
       simp only [strap_Word.j1] at H
       by_cases c20 : x33_10 = true
       ·subst c20
        have H1 : (some (([] : List Int), 3)) = some (r1, r2) := by rw [if_pos rfl] at H; exact H
        clear H
        have H := H1
        clear H1
        simp only [Option.some.injEq, Prod.mk.injEq] at H
        obtain ⟨rfl, rfl⟩ := H
        go_wp2
        go_ret2
        exact ⟨_, by first | rfl | (simp [errW_none, errW_some] <;> rfl) | (simp [*, errW_none, errW_some] <;> rfl), by first | exact Kd.R_nil _ _ _ _ _ | exact Kd.N_nil _ _ _ _ _ | exact Kd.V_nil _ _ _ _ _ | exact Kd.Q_nil _ _ _ _ _ | exact Kd.S_nil _ _ _ _ _, by repeat (first | (with_reducible first | exact HB.out | apply below_alloc | apply pw_below_drewN | apply below_drew1 | refine below_set ?_ GE590.out) | exact HB.out)⟩
       ·replace c20 := Bool.eq_false_iff.mpr c20
        subst c20
        have H1 : (if a1_0 < 0 then ((slices_Reverse_int_int.f kj10 t595).bind fun t598 => (strap_Word.l0 kj10 t598 (t595.length : Int) 0 a1_0 l1_1)) else (strap_Word.j3 kj10 t595 a1_0 l1_1)) = some (r1, r2) := by rw [if_neg (show ¬ (false = true) by decide)] at H; exact H
        clear H
        have H := H1
        clear H1
        have HC21 := Aside0.mk H
        clear H
        have hcz22_0 : wc.cell? ⟨gb590, 0, none⟩ = some (.int .i64 a1_0) := (blk_cell BK590.out 0).trans rfl
        have hcz22_1 : wc.cell? ⟨gb590, 1, none⟩ = some (.slice A1_1 l1_1.length c1_1) := (blk_cell BK590.out 1).trans rfl
        have hfz22_0 := blk_frozen BK590.out 0
        have hfz22_1 := blk_frozen BK590.out 1
        go_upto_if 36 with (fail)
        go_cut [] (fun wc => ∃ (kq : Nat) (x6_20 : List Int), Aside0 (strap_Word.j3 kq x6_20 a1_0 l1_1 = some (r1, r2)) ∧ Aside0 (kq ≤ kj10) ∧ Aside0 (Kd.R (Kd.int .i64) 3 wc w.heap.size (fun _ => True) v596 x6_20) ∧ Aside0 (wc.heap[gb590]? = some (.cells #[.int .i64 a1_0, (.slice A1_1 l1_1.length c1_1)] 26 (0, 0))) ∧ Aside0 (Below w.heap.size w wc))
        case first =>
         have H := HC21.out
         clear HC21
         by_cases c23 : a1_0 < 0
         ·rw [if_pos c23] at H
          have c23b0 : decide (a1_0 < 0) = true := decide_eq_true c23
          clear c23
          (first | rw [c23b0] | (simp only [i64_w, i32_w]; rw [c23b0]) | skip)
          replace H := Option.bind_eq_some_iff.mp H
          obtain ⟨t598, A240, H⟩ := H
          replace H : (strap_Word.l0 kj10 t598 (t595.length : Int) 0 a1_0 l1_1) = some (r1, r2) := H
          have A24 := Aside0.mk A240
          clear A240
          have H' := Aside0.mk H
          clear H
          obtain ⟨Ao25, co25, eo25⟩ := Kd.R_slice HO_6.out
          subst eo25
          go_wp2_with (first | ((with_reducible refine gate_callee (f := 80) rfl ?_); refine gL 38 Try.func80 #[.slice Ao25 t595.length co25] ?_; (with_reducible refine (slices_Reverse_int_int.calls kj10 (fun k_ => some k_ = (.slice Ao25 t595.length co25 : Value).ownBlock) (.slice Ao25 t595.length co25) t595 t598 w _ ?side1 ?side2 A24.out).mono ?_); (case side1 => repeat (first | (with_reducible first | exact HB.out | apply below_alloc | apply pw_below_drewN | apply below_drew1 | refine below_set ?_ GE590.out) | exact HB.out)); (case side2 => exact Kd.R_tight rfl HO_6.out); rintro e w26 ⟨rfl, hy0, hb, hkp⟩; refine ⟨_, rfl, ?_⟩; have n0_ := Aside0.mk (Kd.R_reok rfl hy0 (fun k_ e_ => HO_6.out.1 k_ e_)); have n1_ := Aside0.mk (blk_kept (bk BK590) hkp (fun hs_ => (fun e_ => (Kd.R_ne HO_6.out BK590.out (by decide)) e_) hs_)); have n2_ := Aside0.mk (hb); clear HO_6; clear BK590; clear HB; have HO_6 := n0_; have BK590 := n1_; have HB := n2_; clear n0_ n1_ n2_; (try clear hb); (try clear hkp); (try clear hy0)))
          go_loopg [41] kj10 (fun kq v41 w' => ∃ (x6_3 : List Int) (x41_3 : Int), v41 = .int .i64 x41_3 ∧ Aside0 (strap_Word.l0 kq x6_3 (t595.length : Int) x41_3 a1_0 l1_1 = some (r1, r2)) ∧ Aside0 (kq ≤ kj10) ∧ Aside0 (Kd.R (Kd.int .i64) 3 w' w.heap.size (fun _ => True) (.slice Ao25 t595.length co25) x6_3) ∧ Aside0 (w'.heap[gb590]? = some (.cells #[.int .i64 a1_0, (.slice A1_1 l1_1.length c1_1)] 26 (0, 0))) ∧ Aside0 (Below w.heap.size w w'))
          case atStart => exact ⟨(t598), (0), (by first | rfl | (simp; done) | (simp [*]; done)), H', ⟨Nat.le_refl _⟩, ⟨rl HO_6⟩, ⟨bk BK590⟩, ⟨bl HB⟩⟩
          case round =>
           clear H'
           try clear c1
           try clear c2
           try clear p2
           try clear c5
           try clear c5b0
           try clear c6
           try clear c7
           try clear c8
           try clear c17
           try clear c17b0
           try clear c20
           try clear c23
           try clear c23b0
           try clear hcz12_0
           try clear hcz12_1
           try clear hcz18_0
           try clear hcz18_1
           try clear hcz19_0
           try clear hcz19_1
           try clear hcz22_0
           try clear hcz22_1
           try clear hfz12_0
           try clear hfz12_1
           try clear hfz18_0
           try clear hfz18_1
           try clear hfz19_0
           try clear hfz19_1
           try clear hfz22_0
           try clear hfz22_1
           try clear p2
           obtain ⟨x6_3, x41_3, rfl, HA, HK3, HO_6, BK590, HB⟩ := hrel
           have hl6_3 := (Kd.R_reads' HO_6.out).1
           rw [hl6_3] at HO_6
           (try simp only [hl6_3])
           (try simp only [hl6_3] at BK590)
           cases gk with
           | zero => exact absurd HA.out (by simp [strap_Word.l0])
           | succ k3 =>
            have H := HA.out
            clear HA
            simp only [strap_Word.l0] at H
            by_cases c27 : x41_3 < (t595.length : Int)
            ·rw [if_pos c27] at H
             have c27b0 : decide (x41_3 < (t595.length : Int)) = true := decide_eq_true c27
             clear c27
             by_cases c28 : 0 ≤ x41_3
             ·rw [if_pos c28] at H
              have c28b0 : decide (0 ≤ x41_3) = true := decide_eq_true c28
              clear c28
              by_cases c29 : x41_3 < (x6_3.length : Int)
              ·rw [if_pos c29] at H
               have c29b0 : decide (x41_3 < (x6_3.length : Int)) = true := decide_eq_true c29
               clear c29
               obtain ⟨y600, hy600⟩ : ∃ y_ : List Int, y_ = (x6_3.set (x41_3 : Int).toNat (wrap64 (-(rd x6_3 x41_3)))) := ⟨_, rfl⟩
               replace H : (strap_Word.l0 k3 y600 (t595.length : Int) (wrap64 (x41_3 + 1)) a1_0 l1_1) = some (r1, r2) := by first | (rw [hy600]; with_reducible exact H) | (have H2_ := (Option.bind_some _ _).symm.trans H; rw [hy600]; with_reducible exact H2_) | (have H2_ := (Option.bind_some _ _).symm.trans H; with_reducible exact H2_) | with_reducible exact H | (rw [hy600]; exact H) | exact H
               have Ny600 := Aside0.mk hy600
               clear hy600
               have H' := Aside0.mk H
               clear H
               have p599 : 0 ≤ (x41_3 : Int) := ofd
               have q599 : x41_3 < (x6_3.length : Int) := ofd
               obtain ⟨ad599, e599, hx599_0⟩ := Kd.at_int (Kd.R_reads' HO_6.out).2.2 x41_3 p599 q599
               cases e599
               replace p599 := eq_true p599
               replace q599 := eq_true q599
               have p30 : 0 ≤ (x41_3 : Int) := ofd
               have q30 : (x41_3 : Int) < ((x6_3.length : Int) : Int) := ofd
               obtain ⟨go30, co30, eo30, gb30, gl30, cl30, HG30⟩ := Kd.R_form HO_6.out (by omega)
               (first | cases eo30 | (injection eo30 with ea_ en_ ec_; (first | subst ea_ | (injection ea_ with ea_; subst ea_)); subst ec_; clear en_))
               have GB30 := Aside0.mk gb30
               have GG30 := Aside0.mk HG30
               clear gb30 gl30 HG30
               (first | simp only [add_plain] at hx599_0 | skip)
               obtain ⟨hx30_0, hf30_0⟩ := Kd.R_celln 0 HO_6.out (x41_3 : Int) p30 q30
               replace p30 := eq_true p30
               replace q30 := eq_true q30
               have HP31 := Kd.R_putg HO_6.out (x41_3 : Int) (wrap64 (-(rd x6_3 x41_3)))
               go_wp2_with (first | ((with_reducible refine gate_store (t := 3) (p := 51) rfl ?_); refine store_event (t := 3) (p := 51) (v := ?vo_w32) (w1 := (wr.setCell ⟨go30, (x41_3 : Int).toNat, none⟩ (.int .i64 (wrap64 (-(rd x6_3 x41_3)))))) ?hg ?ho ?hn ?hr ?_; (case ho => rfl); (case hg => rfl); (case hn => rfl); (case hr => first | (go_simp; done) | (go_simp; rfl)); intro w32 hw; have hg : wr.grownBy w32 (some go30) := (by rw [hw]; exact HP31.2); have hp_ : Kd.R (Kd.int .i64) 3 w32 w.heap.size (fun _ => True) (.slice (some ⟨go30, 0, none⟩) x6_3.length co25) y600 := (by rw [hw, Ny600.out]; exact HP31.1); clear HP31; have n0_ := Aside0.mk (hp_); have n1_ := Aside0.mk (blk_grown (g := gb590) (o := .cells #[.int .i64 a1_0, .slice A1_1 l1_1.length c1_1] 26 (0, 0)) (bk BK590) hg (Kd.R_ne HO_6.out BK590.out (by decide))); have n2_ := Aside0.mk ((by rw [hw]; exact below_set (HB.out) GB30.out : Below w.heap.size w w32)); clear HO_6; clear BK590; clear HB; have HO_6 := n0_; have BK590 := n1_; have HB := n2_; clear n0_ n1_ n2_; clear hg hw hp_))
               (try simp only [← hl6_3])
               go_roundg k3
               case measure => have := HJ2.out; have := HJ10.out; have := HK3.out; omega
               case rel => exact ⟨(y600), (wrap64 (x41_3 + 1)), (by first | rfl | (simp; done) | (simp [*]; done)), H', ⟨by have := HJ2.out; have := HJ10.out; have := HK3.out; omega⟩, ⟨by (try simp only [hl6_3]); (with_reducible repeat (first | apply Kd.R_alloc | apply Kd.R_drewN | apply Kd.R_drew)); exact HO_6.out⟩, ⟨by (try simp only [hl6_3]); (with_reducible repeat (first | refine blk_drewN ?_ _ | refine blk_drew ?_ | refine blk_alloc ?_ _)); exact BK590.out⟩, ⟨bl HB⟩⟩
              ·rw [if_neg c29] at H
               exact absurd H (by simp)
             ·rw [if_neg c28] at H
              exact absurd H (by simp)
            ·rw [if_neg c27] at H
             have c27b0 : decide (x41_3 < (t595.length : Int)) = false := decide_eq_false c27
             (try simp only [hl6_3] at c27b0)
             clear c27
             have H' := Aside0.mk H
             clear H
             go_wp2
             (try simp only [← hl6_3])
             go_meet
             case rel => exact ⟨_, (x6_3), H', ⟨by have := HJ2.out; have := HJ10.out; have := HK3.out; first | omega | exact Nat.le_refl _⟩, ⟨by (try simp only [hl6_3]); (with_reducible repeat (first | apply Kd.R_alloc | apply Kd.R_drewN | apply Kd.R_drew)); exact HO_6.out⟩, ⟨by (try simp only [hl6_3]); (with_reducible repeat (first | refine blk_drewN ?_ _ | refine blk_drew ?_ | refine blk_alloc ?_ _)); exact BK590.out⟩, ⟨bl HB⟩⟩
         ·rw [if_neg c23] at H
          have c23b0 : decide (a1_0 < 0) = false := decide_eq_false c23
          clear c23
          (first | rw [c23b0] | (simp only [i64_w, i32_w]; rw [c23b0]) | skip)
          have H' := Aside0.mk H
          clear H
          go_wp2
          go_meet
          case rel => exact ⟨_, (t595), H', ⟨by have := HJ2.out; have := HJ10.out; first | omega | exact Nat.le_refl _⟩, ⟨rl HO_6⟩, ⟨bk BK590⟩, ⟨bl HB⟩⟩
        case rest =>
         clear HC21
         try clear c1
         try clear c2
         try clear p2
         try clear p3
         try clear q3
         try clear hx3
         try clear hf3
         try clear c5
         try clear c5b0
         try clear p5
         try clear q5
         try clear hx5
         try clear c6
         try clear p6
         try clear c7
         try clear c8
         try clear c17
         try clear c17b0
         try clear c20
         try clear c23
         try clear c23b0
         try clear c27
         try clear c27b0
         try clear c28
         try clear c28b0
         try clear c29
         try clear c29b0
         try clear p30
         try clear q30
         try clear hx30
         try clear hf30
         try clear hcz12_0
         try clear hcz12_1
         try clear hcz18_0
         try clear hcz18_1
         try clear hcz19_0
         try clear hcz19_1
         try clear hcz22_0
         try clear hcz22_1
         try clear hfz12_0
         try clear hfz12_1
         try clear hfz18_0
         try clear hfz18_1
         try clear hfz19_0
         try clear hfz19_1
         try clear hfz22_0
         try clear hfz22_1
         try clear hx30_0
         try clear hx599_0
         try clear p2
         try clear p30
         try clear p599
         try clear q30
         try clear q599
         obtain ⟨kq, x6_20, HA, HJ20, HO_6, BK590, HB⟩ := hcut
         cases kq with
         | zero => exact absurd HA.out (by simp [strap_Word.j3])
         | succ kj20 =>
          have H := HA.out
          clear HA
          simp only [strap_Word.j3] at H
          obtain ⟨ji33, hji33⟩ : ∃ j_ : Int, (mx a1_0 (wrap64 (-a1_0))) = j_ := ⟨_, rfl⟩
          replace H : (strap_Word.l1 kj20 x6_20 ([] : List Int) ji33 0 a1_0 l1_1) = some (r1, r2) := by first | (rw [hji33] at H; exact H) | (simp only [hji33] at H ⊢; exact H)
          have hji33_ : (if a1_0 < (wrap64 (-a1_0)) then (wrap64 (-a1_0)) else a1_0) = ji33 := hji33
          have H' := Aside0.mk H
          clear H
          have hcz34_0 : wc.cell? ⟨gb590, 0, none⟩ = some (.int .i64 a1_0) := (blk_cell BK590.out 0).trans rfl
          have hcz34_1 : wc.cell? ⟨gb590, 1, none⟩ = some (.slice A1_1 l1_1.length c1_1) := (blk_cell BK590.out 1).trans rfl
          have hfz34_0 := blk_frozen BK590.out 0
          have hfz34_1 := blk_frozen BK590.out 1
          go_wp2
          go_loopg [8, 59] kj20 (fun kq v8 v59 w' => ∃ (x8_4 : List Int) (x59_4 : Int), v59 = .int .i64 x59_4 ∧ Aside0 (strap_Word.l1 kq x6_20 x8_4 ji33 x59_4 a1_0 l1_1 = some (r1, r2)) ∧ Aside0 (kq ≤ kj20) ∧ Aside0 (Kd.R (Kd.int .i64) 3 w' w.heap.size (fun k_ => some k_ ≠ (v8 : Value).ownBlock) v596 x6_20) ∧ Aside0 (Kd.R (Kd.int .i64) 3 w' w.heap.size (fun k_ => some k_ ≠ (v596 : Value).ownBlock) v8 x8_4) ∧ Aside0 (w'.heap[gb590]? = some (.cells #[.int .i64 a1_0, (.slice A1_1 l1_1.length c1_1)] 26 (0, 0))) ∧ Aside0 (Below w.heap.size w w'))
          case atStart => exact ⟨(([] : List Int)), (0), (by first | rfl | (simp; done) | (simp [*]; done)), H', ⟨Nat.le_refl _⟩, ⟨by (with_reducible repeat (first | apply Kd.R_alloc | apply Kd.R_drewN | apply Kd.R_drew)); exact Kd.R_mono HO_6.out (fun _ hk => (by simp [Value.ownBlock]))⟩, ⟨by first | exact Kd.R_nil _ _ _ _ _ | exact Kd.N_nil _ _ _ _ _ | exact Kd.V_nil _ _ _ _ _ | exact Kd.Q_nil _ _ _ _ _ | exact Kd.S_nil _ _ _ _ _⟩, ⟨bk BK590⟩, ⟨bl HB⟩⟩
          case round =>
           clear H'
           try clear c1
           try clear c2
           try clear p2
           try clear p3
           try clear q3
           try clear hx3
           try clear hf3
           try clear c5
           try clear c5b0
           try clear p5
           try clear q5
           try clear hx5
           try clear c6
           try clear p6
           try clear c7
           try clear c8
           try clear c17
           try clear c17b0
           try clear c20
           try clear c23
           try clear c23b0
           try clear c27
           try clear c27b0
           try clear c28
           try clear c28b0
           try clear c29
           try clear c29b0
           try clear p30
           try clear q30
           try clear hx30
           try clear hf30
           try clear hcz12_0
           try clear hcz12_1
           try clear hcz18_0
           try clear hcz18_1
           try clear hcz19_0
           try clear hcz19_1
           try clear hcz22_0
           try clear hcz22_1
           try clear hcz34_0
           try clear hcz34_1
           try clear hfz12_0
           try clear hfz12_1
           try clear hfz18_0
           try clear hfz18_1
           try clear hfz19_0
           try clear hfz19_1
           try clear hfz22_0
           try clear hfz22_1
           try clear hfz34_0
           try clear hfz34_1
           try clear hx30_0
           try clear hx599_0
           try clear p2
           try clear p3
           try clear p30
           try clear p5
           try clear p599
           try clear p6
           try clear q3
           try clear q30
           try clear q5
           try clear q599
           obtain ⟨x8_4, x59_4, rfl, HA, HK4, HO_6, HO_8, BK590, HB⟩ := hrel
           cases gk with
           | zero => exact absurd HA.out (by simp [strap_Word.l1])
           | succ k4 =>
            have H := HA.out
            clear HA
            simp only [strap_Word.l1] at H
            by_cases c35 : x59_4 < ji33
            ·rw [if_pos c35] at H
             have c35b0 : decide (x59_4 < ji33) = true := decide_eq_true c35
             clear c35
             by_cases c36 : x8_4.length + x6_20.length < 17592186044416
             ·rw [if_pos c36] at H
              have LMc36 := Aside0.mk c36
              clear c36
              obtain ⟨y601, hy601⟩ : ∃ y_ : List Int, y_ = (x8_4 ++ x6_20) := ⟨_, rfl⟩
              replace H : (strap_Word.l1 k4 x6_20 y601 ji33 (wrap64 (x59_4 + 1)) a1_0 l1_1) = some (r1, r2) := by first | (rw [hy601]; with_reducible exact H) | (have H2_ := (Option.bind_some _ _).symm.trans H; rw [hy601]; with_reducible exact H2_) | (have H2_ := (Option.bind_some _ _).symm.trans H; with_reducible exact H2_) | with_reducible exact H | (rw [hy601]; exact H) | exact H
              have Ny601 := Aside0.mk hy601
              clear hy601
              have H' := Aside0.mk H
              clear H
              obtain ⟨Ao38, co38, eo38⟩ := Kd.R_slice HO_6.out
              subst eo38
              go_wp2_with (first | ((with_reducible refine gate_builtin (b := .append) (xs := #[.tmp 61, .tmp 62]) rfl ?_); at_builtin; refine Kd.R_append_rows (Kd.int .i64) (w0 := w) w.heap.size rfl (.tmp 61) (.tmp 62) 22 3 (.int .i64 0) 8 rfl Try.underlying22 info3 rfl (by decide) (by omega) u8 x8_4 x6_20 _ _ _ (fun k_ => some k_ ≠ (.slice Ao38 x6_20.length co38 : Value).ownBlock) (fun _ => False) rfl rfl ?aO ?aR (fun _ _ h => h) (fun _ h => h.elim) ?aF ?aB ?aS ?aL ?_; (case aR => exact cl ((Kd.R_reads' HO_6.out).2.2)); (case aB => exact (bl HB)); (case aF => exact (fun k_ hk => Kd.fresh' (Kd.R_lt (rl HO_6)) k_ hk)); (case aO => exact (rl HO_8)); (case aS => exact (below_size (bl HB))); (case aL => have := LMc36.out; omega); intro v602 w37 ho hb hg hat; rw [← Ny601.out] at ho; have n0_ := Aside0.mk (Kd.R_after (ok := (fun _ => True)) (by (with_reducible repeat (first | apply Kd.R_alloc | apply Kd.R_drewN | apply Kd.R_drew)); exact Kd.R_mono HO_6.out (fun _ hk => ⟨trivial, hk⟩)) hg hat); have n1_ := Aside0.mk (blk_grown (g := gb590) (o := .cells #[.int .i64 a1_0, .slice A1_1 l1_1.length c1_1] 26 (0, 0)) (bk BK590) hg (Kd.R_ne HO_8.out BK590.out (by decide))); have n2_ := Aside0.mk (hb); have n3_ := Aside0.mk (ho); clear HO_6; clear BK590; clear HB; clear HO_8; have HO_6 := n0_; have BK590 := n1_; have HB := n2_; have HO603 := n3_; clear n0_ n1_ n2_ n3_; clear ho hb hg hat))
              go_roundg k4
              case measure => have := HJ2.out; have := HJ10.out; have := HJ20.out; have := HK4.out; omega
              case rel => exact ⟨(y601), (wrap64 (x59_4 + 1)), (by first | rfl | (simp; done) | (simp [*]; done)), H', ⟨by have := HJ2.out; have := HJ10.out; have := HJ20.out; have := HK4.out; omega⟩, ⟨by (with_reducible repeat (first | apply Kd.R_alloc | apply Kd.R_drewN | apply Kd.R_drew)); exact Kd.R_mono HO_6.out (fun _ hk => hk.2)⟩, ⟨rl HO603⟩, ⟨bk BK590⟩, ⟨bl HB⟩⟩
             ·rw [if_neg c36] at H
              exact absurd H (by simp)
            ·rw [if_neg c35] at H
             have c35b0 : decide (x59_4 < ji33) = false := decide_eq_false c35
             clear c35
             have H' := Aside0.mk H
             clear H
             have hcz39_0 : wr.cell? ⟨gb590, 0, none⟩ = some (.int .i64 a1_0) := (blk_cell BK590.out 0).trans rfl
             have hcz39_1 : wr.cell? ⟨gb590, 1, none⟩ = some (.slice A1_1 l1_1.length c1_1) := (blk_cell BK590.out 1).trans rfl
             have hfz39_0 := blk_frozen BK590.out 0
             have hfz39_1 := blk_frozen BK590.out 1
             go_wp2
             go_loopg [8, 68] k4 (fun kq v8 v68 w' => ∃ (x8_5 : List Int) (x68_5 : Int), v68 = .int .i64 x68_5 ∧ Aside0 (strap_Word.l2 kq x8_5 l1_1 (l1_1.length : Int) x68_5 = some (r1, r2)) ∧ Aside0 (kq ≤ k4) ∧ Aside0 (Kd.R (Kd.int .i64) 3 w' w.heap.size (fun _ => True) v8 x8_5) ∧ Aside0 (w'.heap[gb590]? = some (.cells #[.int .i64 a1_0, (.slice A1_1 l1_1.length c1_1)] 26 (0, 0))) ∧ Aside0 (Below w.heap.size w w'))
             case atStart => exact ⟨(x8_4), (0), (by first | rfl | (simp; done) | (simp [*]; done)), H', ⟨Nat.le_refl _⟩, ⟨by (with_reducible repeat (first | apply Kd.R_alloc | apply Kd.R_drewN | apply Kd.R_drew)); exact Kd.R_mono HO_8.out (fun _ hk => trivial)⟩, ⟨bk BK590⟩, ⟨bl HB⟩⟩
             case round =>
              clear H'
              try clear c1
              try clear c2
              try clear p2
              try clear c3
              try clear p3
              try clear q3
              try clear hx3
              try clear hf3
              try clear c5
              try clear c5b0
              try clear p5
              try clear q5
              try clear hx5
              try clear c6
              try clear p6
              try clear c7
              try clear c8
              try clear c17
              try clear c17b0
              try clear c20
              try clear c23
              try clear c23b0
              try clear c27
              try clear c27b0
              try clear c28
              try clear c28b0
              try clear c29
              try clear c29b0
              try clear p30
              try clear q30
              try clear hx30
              try clear hf30
              try clear c35
              try clear c35b0
              try clear c36
              try clear hcz12_0
              try clear hcz12_1
              try clear hcz18_0
              try clear hcz18_1
              try clear hcz19_0
              try clear hcz19_1
              try clear hcz22_0
              try clear hcz22_1
              try clear hcz34_0
              try clear hcz34_1
              try clear hcz39_0
              try clear hcz39_1
              try clear hfz12_0
              try clear hfz12_1
              try clear hfz18_0
              try clear hfz18_1
              try clear hfz19_0
              try clear hfz19_1
              try clear hfz22_0
              try clear hfz22_1
              try clear hfz34_0
              try clear hfz34_1
              try clear hfz39_0
              try clear hfz39_1
              try clear hx30_0
              try clear hx599_0
              try clear p2
              try clear p3
              try clear p30
              try clear p5
              try clear p599
              try clear p6
              try clear q3
              try clear q30
              try clear q5
              try clear q599
              obtain ⟨x8_5, x68_5, rfl, HA, HK5, HO_8, BK590, HB⟩ := hrel
              cases gk with
              | zero => exact absurd HA.out (by simp [strap_Word.l2])
              | succ k5 =>
               have H := HA.out
               clear HA
               simp only [strap_Word.l2] at H
               by_cases c40 : x68_5 < (l1_1.length : Int)
               ·rw [if_pos c40] at H
                have c40b0 : decide (x68_5 < (l1_1.length : Int)) = true := decide_eq_true c40
                clear c40
                by_cases c41 : 0 ≤ x68_5
                ·rw [if_pos c41] at H
                 have c41b0 : decide (0 ≤ x68_5) = true := decide_eq_true c41
                 clear c41
                 by_cases c42 : x68_5 < (l1_1.length : Int)
                 ·rw [if_pos c42] at H
                  have c42b0 : decide (x68_5 < (l1_1.length : Int)) = true := decide_eq_true c42
                  clear c42
                  replace H := Option.bind_eq_some_iff.mp H
                  obtain ⟨t605, A430, H⟩ := H
                  replace H : (if x8_5.length + t605.length < 17592186044416 then (strap_Word.l2 k5 (x8_5 ++ t605) l1_1 (l1_1.length : Int) (wrap64 (x68_5 + 1))) else (none)) = some (r1, r2) := H
                  have A43 := Aside0.mk A430
                  clear A430
                  by_cases c44 : x8_5.length + t605.length < 17592186044416
                  ·rw [if_pos c44] at H
                   have LMc44 := Aside0.mk c44
                   clear c44
                   obtain ⟨y608, hy608⟩ : ∃ y_ : List Int, y_ = (x8_5 ++ t605) := ⟨_, rfl⟩
                   replace H : (strap_Word.l2 k5 y608 l1_1 (l1_1.length : Int) (wrap64 (x68_5 + 1))) = some (r1, r2) := by first | (rw [hy608]; with_reducible exact H) | (have H2_ := (Option.bind_some _ _).symm.trans H; rw [hy608]; with_reducible exact H2_) | (have H2_ := (Option.bind_some _ _).symm.trans H; with_reducible exact H2_) | with_reducible exact H | (rw [hy608]; exact H) | exact H
                   have Ny608 := Aside0.mk hy608
                   clear hy608
                   have H' := Aside0.mk H
                   clear H
                   have p604 : 0 ≤ (x68_5 : Int) := ofd
                   have q604 : x68_5 < (l1_1.length : Int) := ofd
                   obtain ⟨ad604, A604_0, c604_0, e604, hx604_0, hl604_0, hi604_0⟩ := at_L1 HR1_1.out x68_5 p604 q604
                   cases e604
                   replace hx604_0 := (HB.out.cell (World.block_lt_of_cell? w _ hx604_0)).trans hx604_0
                   have HR604_0 := Aside0.mk hi604_0
                   have HC604_0 := Aside0.mk hl604_0
                   clear hi604_0 hl604_0
                   replace p604 := eq_true p604
                   replace q604 := eq_true q604
                   go_wp2_with (first | ((with_reducible refine gate_callee (f := 79) rfl ?_); refine gL 74 Try.func79 #[.slice A604_0 (rd_L1 l1_1 x68_5).length c604_0] ?_; (with_reducible refine (strap_perm_word.calls k5 _ _ (rd_L1 l1_1 x68_5) t605 _ ?side1 ?side2 A43.out).mono ?_); (case side1 => exact cl (Kd.C_below HR604_0.out HB.out)); (case side2 => exact HC604_0.out); rintro e w45 ⟨v606, rfl, ho0, hb⟩; refine ⟨_, rfl, ?_⟩; have n0_ := Aside0.mk (Kd.R_elder' (rl HO_8) (Kd.R_base ho0) hb); have n1_ := Aside0.mk (Kd.R_lower (Kd.R_new' ho0 (Kd.R_lt (rl HO_8))) (below_size (bl HB))); have n2_ := Aside0.mk (blk_below (g := gb590) (o := .cells #[.int .i64 a1_0, .slice (some ad604) l1_1.length c1_1] 26 (0, 0)) (bk BK590) hb); have n3_ := Aside0.mk (below_step (bl HB) hb); clear HO_8; clear BK590; clear HB; have HO_8 := n0_; have HO607 := n1_; have BK590 := n2_; have HB := n3_; clear n0_ n1_ n2_ n3_; (try clear hb); (try clear hb2); (try clear hk); (try clear hi); (try clear ho0); obtain ⟨Ao47, co47, eo47⟩ := Kd.R_slice HO607.out; subst eo47) | ((with_reducible refine gate_builtin (b := .append) (xs := #[.tmp 72, .tmp 74]) rfl ?_); at_builtin; refine Kd.R_append_rows (Kd.int .i64) (w0 := w) w.heap.size rfl (.tmp 72) (.tmp 74) 22 3 (.int .i64 0) 8 rfl Try.underlying22 info3 rfl (by decide) (by omega) u8 x8_5 t605 _ _ _ (fun k_ => some k_ ≠ (.slice Ao47 t605.length co47 : Value).ownBlock) (fun _ => False) rfl rfl ?aO ?aR (fun _ _ h => h) (fun _ h => h.elim) ?aF ?aB ?aS ?aL ?_; (case aR => exact cl ((Kd.R_reads' HO607.out).2.2)); (case aB => exact (bl HB)); (case aF => exact (fun k_ hk => Kd.fresh' (Kd.R_lt (rl HO607)) k_ hk)); (case aO => exact (by (with_reducible repeat (first | apply Kd.R_alloc | apply Kd.R_drewN | apply Kd.R_drew)); exact Kd.R_mono HO_8.out (fun _ hk => hk.2))); (case aS => exact (below_size (bl HB))); (case aL => have := LMc44.out; omega); intro v609 w46 ho hb hg hat; rw [← Ny608.out] at ho; have n0_ := Aside0.mk (blk_grown (g := gb590) (o := .cells #[.int .i64 a1_0, .slice (some ad604) l1_1.length c1_1] 26 (0, 0)) (bk BK590) hg (Kd.R_ne HO_8.out BK590.out (by decide))); have n1_ := Aside0.mk (Kd.R_after (ok := (fun _ => True)) (rl HO607) hg hat); have n2_ := Aside0.mk (hb); have n3_ := Aside0.mk (ho); clear BK590; clear HO607; clear HB; clear HO_8; have BK590 := n0_; have HO607 := n1_; have HB := n2_; have HO610 := n3_; clear n0_ n1_ n2_ n3_; clear ho hb hg hat))
                   go_roundg k5
                   case measure => have := HJ2.out; have := HJ10.out; have := HJ20.out; have := HK4.out; have := HK5.out; omega
                   case rel => exact ⟨(y608), (wrap64 (x68_5 + 1)), (by first | rfl | (simp; done) | (simp [*]; done)), H', ⟨by have := HJ2.out; have := HJ10.out; have := HJ20.out; have := HK4.out; have := HK5.out; omega⟩, ⟨by (with_reducible repeat (first | apply Kd.R_alloc | apply Kd.R_drewN | apply Kd.R_drew)); exact Kd.R_mono HO610.out (fun _ hk => trivial)⟩, ⟨bk BK590⟩, ⟨bl HB⟩⟩
                  ·rw [if_neg c44] at H
                   exact absurd H (by simp)
                 ·rw [if_neg c42] at H
                  exact absurd H (by simp)
                ·rw [if_neg c41] at H
                 exact absurd H (by simp)
               ·rw [if_neg c40] at H
                have c40b0 : decide (x68_5 < (l1_1.length : Int)) = false := decide_eq_false c40
                clear c40
                by_cases c48 : (x8_5.length : Int) > 10000
                ·rw [if_pos c48] at H
                 have c48b0 : decide (10000 < (x8_5.length : Int)) = true := decide_eq_true c48
                 have c48b1 : decide (10000 < x8_5.length) = true := decide_eq_true (by omega)
                 clear c48
                 simp only [Option.some.injEq, Prod.mk.injEq] at H
                 obtain ⟨rfl, rfl⟩ := H
                 obtain ⟨Ao49, co49, eo49⟩ := Kd.R_slice HO_8.out
                 subst eo49
                 go_wp2
                 go_ret2
                 exact ⟨_, by first | rfl | (simp [errW_none, errW_some] <;> rfl) | (simp only [← hji33]; first | rfl | (simp [errW_none, errW_some] <;> rfl)) | (simp [*, errW_none, errW_some] <;> rfl), by first | exact Kd.R_nil _ _ _ _ _ | exact Kd.N_nil _ _ _ _ _ | exact Kd.V_nil _ _ _ _ _ | exact Kd.Q_nil _ _ _ _ _ | exact Kd.S_nil _ _ _ _ _, by repeat (first | (with_reducible first | exact HB.out | apply below_alloc | apply pw_below_drewN | apply below_drew1 | refine below_set ?_ GE590.out) | exact HB.out)⟩
                ·rw [if_neg c48] at H
                 have c48b0 : decide (10000 < (x8_5.length : Int)) = false := decide_eq_false c48
                 have c48b1 : decide (10000 < x8_5.length) = false := decide_eq_false (by omega)
                 clear c48
                 simp only [Option.some.injEq, Prod.mk.injEq] at H
                 obtain ⟨rfl, rfl⟩ := H
                 obtain ⟨Ao50, co50, eo50⟩ := Kd.R_slice HO_8.out
                 subst eo50
                 go_wp2
                 go_ret2
                 exact ⟨_, by first | rfl | (simp [errW_none, errW_some] <;> rfl) | (simp only [← hji33]; first | rfl | (simp [errW_none, errW_some] <;> rfl)) | (simp [*, errW_none, errW_some] <;> rfl), by (with_reducible repeat (first | apply Kd.R_alloc | apply Kd.R_drewN | apply Kd.R_drew)); exact HO_8.out, by repeat (first | (with_reducible first | exact HB.out | apply below_alloc | apply pw_below_drewN | apply below_drew1 | refine below_set ?_ GE590.out) | exact HB.out)⟩
    ·replace c8 := Bool.eq_false_iff.mpr c8
     subst c8
     have H1 : (some (([] : List Int), 2)) = some (r1, r2) := by rw [if_neg (show ¬ (false = true) by decide)] at H; exact H
     clear H
     have H := H1
     clear H1
     simp only [Option.some.injEq, Prod.mk.injEq] at H
     obtain ⟨rfl, rfl⟩ := H
     have hcz51_0 : wc.cell? ⟨gb590, 0, none⟩ = some (.int .i64 a1_0) := (blk_cell BK590.out 0).trans rfl
     have hcz51_1 : wc.cell? ⟨gb590, 1, none⟩ = some (.slice A1_1 l1_1.length c1_1) := (blk_cell BK590.out 1).trans rfl
     have hfz51_0 := blk_frozen BK590.out 0
     have hfz51_1 := blk_frozen BK590.out 1
     go_wp2_with (first | ((with_reducible refine gate_callee (f := 77) rfl ?_); refine gL 21 Try.func77 #[.int .i64 a0, .agg #[.int .i64 a1_0, .slice A1_1 l1_1.length c1_1]] ?_; (with_reducible refine (strap_formed.calls kj2 a0 a1_0 _ _ l1_1 false _ ?side1 ?side2 A7.out).mono ?_); (case side1 => exact cl (Kd.C_below HR1_1.out HB.out)); (case side2 => exact HC1_1.out); rintro e w52 ⟨rfl, hb⟩; refine ⟨_, rfl, ?_⟩; have n0_ := Aside0.mk (blk_below (g := gb590) (o := .cells #[.int .i64 a1_0, .slice A1_1 l1_1.length c1_1] 26 (0, 0)) (bk BK590) hb); have n1_ := Aside0.mk (below_step (bl HB) hb); clear BK590; clear HB; have BK590 := n0_; have HB := n1_; clear n0_ n1_; (try clear hb); (try clear hb2); (try clear hk); (try clear hi)))
     go_ret2
     exact ⟨_, by first | rfl | (simp [errW_none, errW_some] <;> rfl) | (simp [*, errW_none, errW_some] <;> rfl), by first | exact Kd.R_nil _ _ _ _ _ | exact Kd.N_nil _ _ _ _ _ | exact Kd.V_nil _ _ _ _ _ | exact Kd.Q_nil _ _ _ _ _ | exact Kd.S_nil _ _ _ _ _, by repeat (first | (with_reducible first | exact HB.out | apply below_alloc | apply pw_below_drewN | apply below_drew1 | refine below_set ?_ GE590.out) | exact HB.out)⟩
end Go.Proofs.Ytdldfdcedjmneaa.Lx
